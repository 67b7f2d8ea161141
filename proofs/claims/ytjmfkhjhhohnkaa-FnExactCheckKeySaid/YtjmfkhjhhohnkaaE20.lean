/- Hashes of texts in the reference: the path of a key, a leaf, a node. -/
import Derived.Test.YtjmfkhjhhohnkaaEh
import Derived.Test.YtjmfkhjhhohnkaaMbs
import Derived.Test.YtjmfkhjhhohnkaaShb
namespace Go.Proofs.Ytjmfkhjhhohnkaa.Q
open Go.RowKit Go.Proofs.YtjmfkhjhhohnkaaW.PrintWords Go.Proofs.YtjmfkhjhhohnkaaW.PrintLast Go.Proofs.YtjmfkhjhhohnkaaW.PrintMore
open Go.Proofs.Ytjmfkhjhhohnkaa.T (ssha sha)
set_option linter.unusedVariables false
set_option linter.unusedSimpArgs false
theorem nums_bytes (s : ByteArray) : strOfNums (bytesOf s) = s := by
  apply Go.WideShapes.bytes_inj
  unfold strOfNums bytesOf
  apply List.ext_getElem
  · simp
  · intro i h1 h2
    simp
theorem ok_bytes (s : ByteArray) : Pure.okB (bytesOf s) := by
  intro x hx
  unfold bytesOf at hx
  obtain ⟨y, hy, rfl⟩ := List.mem_map.1 hx
  have := y.toNat_lt
  omega
theorem ssha_bytes (s : ByteArray) : ssha (bytesOf s) = sha s := by
  rw [← Pure.sha_eq _ (ok_bytes s), nums_bytes]
theorem conv_run (W : World) (s : ByteArray) : (convert 9 22 (.string s)).run Try.prog W = .ok (.slice (some ⟨W.heap.size, 0, none⟩) s.size (grownCap W s.size 0 5)) (Lib.bytesWorld W 5 s) :=
  Lib.run_convert_string_bytes W 9 22 5 s Try.underlying9 Try.underlying22 Try.underlying5
section
variable {ops : Array Oper} {rest : List Oper} {o : Oper} {a : Act} {Q : Exit → Act → World → Prop} {W : World}
/-- '[]byte(s)': a row of the call's own. -/
theorem conv_event (hgd : o.guard = none) {x : Operand} (ho : o.op = .convert 9 22 x) {s : ByteArray} {n : Nat} (hn : s.size = n) (hx : a.eval x = .string s) (hs : n ≤ 1099511627776)
    (h : ∀ A c w1, n ≤ c → Kd.C (Kd.int .u8) w1 A n (bytesOf s) → Below W.heap.size W w1 → wpList Try.prog ops Q rest (a.put o.dst (.slice A n c)) w1) : wpList Try.prog ops Q (o :: rest) a W := by
  subst hn
  obtain ⟨A, c, he, hc, hC⟩ := MB_reads (MB_made W s (by omega))
  have hl : (bytesOf s).length = s.size := bytesOf_length s
  rw [hl] at he hc hC
  have h1 := h A c _ hc hC (bytes_below W _ s)
  refine Kd.event_run (v := .slice A s.size c) (w1 := Lib.bytesWorld W 5 s) hgd ?_ h1
  have h2 := conv_run W s
  rw [he] at h2
  simp only [execOp, ho, hx, Sem.run_bind, h2, Result.andThen, Sem.run_pure]
end
theorem hash_at (w : World) (s : ByteArray) (n : Nat) (hn : s.size = n) (hs : n ≤ 1099511627776) (A : Option Addr) (c : Nat) (hc : n ≤ c) (hC : Kd.C (Kd.int .u8) w A n (bytesOf s)) :
    Calls Try.prog 37 #[.slice A n c] w fun e w' => e = .returned (.string (sha s)) ∧ Below w.heap.size w w' := by
  subst hn
  have hl : (bytesOf s).length = s.size := bytesOf_length s
  have h1 := T.spec_l01Hash.walk A c (bytesOf s) w (by rw [hl]; exact hC) (by rw [hl]; exact hc) (by rw [hl]; exact hs)
  rw [hl, ssha_bytes] at h1
  exact h1
-- EXT loop.example/g00298/spec.l04Path spec_l04Path 1 0
def spec_l04Path.f (a0 : ByteArray) : Option ByteArray := if a0.size ≤ 1000000000 then some (sha (⟨#[112, 97, 116, 104]⟩ ++ a0)) else none
set_option maxHeartbeats 8000000 in
set_option maxRecDepth 100000 in
theorem spec_l04Path.calls (a0 : ByteArray) (r : ByteArray) (w : World) (h : spec_l04Path.f a0 = some r) :
    Calls Try.prog 39 #[.string a0] w fun e w' => e = .returned (.string r) ∧ Below w.heap.size w w' := by
  unfold spec_l04Path.f at h
  split at h
  case isFalse => cases h
  case isTrue hs =>
    injection h with h
    subst h
    have hz : (⟨#[112, 97, 116, 104]⟩ ++ a0 : ByteArray).size = 4 + a0.size := by rw [ByteArray.size_append]; rfl
    have HZ := Aside0.mk (show 4 + a0.size ≤ 1099511627776 by omega)
    have HZZ := Aside0.mk hz
    have h4 : 4 + a0.size ≤ 9223372036854775807 := by omega
    clear hz hs
    go_enter Try.func39, Try.ntmps39
    go_wp2_with (first
      | ((with_reducible refine gate_dst (N := 5) rfl ?_); refine conv_event rfl rfl (s := ⟨#[112, 97, 116, 104]⟩ ++ a0) (n := 4 + a0.size) HZZ.out rfl HZ.out ?_; intro A5 c5 w1 hc5 hC5 hb5; have HC5 := Aside0.mk hC5; have HL5 := Aside0.mk hc5; have HB5 := Aside0.mk hb5; clear hC5 hc5 hb5)
      | (go_at_call 37; refine (hash_at _ (⟨#[112, 97, 116, 104]⟩ ++ a0) (4 + a0.size) HZZ.out HZ.out A5 c5 HL5.out HC5.out).mono ?_; rintro e w2 ⟨rfl, hb2⟩; have HB2 := Aside0.mk hb2; clear hb2))
    go_ret
    exact ⟨rfl, below_step HB5.out HB2.out⟩
end Go.Proofs.Ytjmfkhjhhohnkaa.Q
