/- Walks of layer 26: Right, New, Own, Is. -/
import Derived.Test.YtcjabfdjngekfaaRelPure
import Derived.Test.YtcjabfdjngekfaaIntsW
import Derived.Test.YtcjabfdjngekfaaRdrW
import Derived.Test.YtcjabfdjngekfaaOrd
set_option linter.unusedVariables false
set_option linter.unusedSimpArgs false
namespace Go.Proofs.Ytcjabfdjngekfaa.Rel
open Go.RowKit Go.Proofs.Ytcjabfdjngekfaa.Wd Go.Proofs.Ytcjabfdjngekfaa.Use Go.Proofs.Ytcjabfdjngekfaa.Lay

theorem okTo_mono (l : List Int) (k n : Nat) (h : k ≤ n) (hf : okTo l k = false) : okTo l n = false := by
  induction n with
  | zero => obtain rfl : k = 0 := by omega
            exact hf
  | succ n ih =>
    rcases Nat.lt_or_ge k (n + 1) with h1 | h1
    · rw [okTo, ih (by omega)]; rfl
    · obtain rfl : k = n + 1 := by omega
      exact hf
theorem okAt_false (l : List Int) (k n : Nat) (h : k < n) (hf : okAt l k = false) : okTo l n = false :=
  okTo_mono l (k + 1) n (by omega) (by rw [okTo, hf, Bool.and_false])
structure EIn (w : World) (e : E) (hv : Value) : Prop where
  hops : Rd w 1 hv e.hops.length (is e.hops)
  limit : I64 e.limit
  hop : ∀ x ∈ e.hops, I64 x
  inner : e.inner.length ≤ 9223372036854775807
theorem EIn.below {w w1 : World} {e : E} {hv : Value} (h : EIn w e hv) (hb : Below w.heap.size w w1) : EIn w1 e hv := ⟨h.hops.below hb, h.limit, h.hop, h.inner⟩
theorem peer_any (p : Int) (w : World) : Calls Try.prog 98 #[.int .i64 p] w fun e w' => e = .returned (.bool (peerB p)) ∧ w' = w := by
  by_cases h1 : 0 ≤ p
  · go_enter Try.func98, Try.ntmps98
    go_wp2
    go_ret
    exact ⟨ret_b (by unfold peerB; simp [h1]), rfl⟩
  · have h2 : decide (0 ≤ p) = false := decide_eq_false h1
    go_enter Try.func98, Try.ntmps98
    go_wp2
    go_ret
    exact ⟨ret_b (by unfold peerB; rw [h2]; rfl), rfl⟩
/-- an envelope's block -/
theorem env_cells {W : World} {g : Nat} {a b c : Value} {t : TypeId} (h : W.heap[g]? = some (.cells #[a, b, c] t (0, 0))) : W.cell? ⟨g, 0, none⟩ = some a ∧ W.cell? ⟨g, 1, none⟩ = some b ∧ W.cell? ⟨g, 2, none⟩ = some c := by
  refine ⟨?_, ?_, ?_⟩ <;> (rw [blk_cell h]; rfl)
set_option maxRecDepth 100000 in
set_option maxHeartbeats 2000000 in
theorem right_any (e : E) (hv : Value) (w : World) (he : EIn w e hv) : Calls Try.prog 37 #[.agg #[hv, .int .i64 e.limit, .string (str e.inner)]] w fun r w' => r = .returned (.bool e.right) ∧ Below w.heap.size w w' := by
  obtain ⟨A, c, rfl, hc1, hc2, -⟩ := he.hops.slice_
  unfold maxLen at hc2
  obtain ⟨hh, ⟨l1, l2⟩, -, hin⟩ := he
  obtain ⟨hops, limit, inner⟩ := e
  simp only at hh l1 l2 hin hc1 ⊢
  have hr : E.right ⟨hops, limit, inner⟩ = (decide (0 ≤ limit) && decide (limit ≤ 8) && decide ((hops.length : Int) ≤ limit) && decide (inner.length ≤ 65536) && okTo hops hops.length) := rfl
  generalize E.right ⟨hops, limit, inner⟩ = r at hr ⊢
  have Hr := Lib.hid hr
  have Hh := Lib.hid (hh.below (below_one w (.cells #[.slice A hops.length c, .int .i64 limit, .string (str inner)] 56)))
  clear hr hh
  by_cases h1 : 0 ≤ limit
  rotate_left
  · have d1 : decide (limit < 0) = true := decide_eq_true (by omega)
    have Hf := Lib.hid (show r = false by rw [Hr.out, decide_eq_false h1]; rfl)
    go_enter Try.func37, Try.ntmps37
    go_wp2_with fail
    go_ret
    exact ⟨ret_b Hf.out.symm, below_one _ _⟩
  have d1 : decide (limit < 0) = false := decide_eq_false (by omega)
  by_cases h2 : limit ≤ 8
  rotate_left
  · have d2 : decide (8 < limit) = true := decide_eq_true (by omega)
    have Hf := Lib.hid (show r = false by rw [Hr.out, decide_eq_false h2]; simp)
    go_enter Try.func37, Try.ntmps37
    go_wp2_with fail
    go_ret
    exact ⟨ret_b Hf.out.symm, below_one _ _⟩
  have d2 : decide (8 < limit) = false := decide_eq_false (by omega)
  by_cases h3 : (hops.length : Int) ≤ limit
  rotate_left
  · have d3 : decide (limit < (hops.length : Int)) = true := decide_eq_true (by omega)
    have Hf := Lib.hid (show r = false by rw [Hr.out, decide_eq_false h3]; simp)
    go_enter Try.func37, Try.ntmps37
    go_wp2_with fail
    go_ret
    exact ⟨ret_b Hf.out.symm, below_one _ _⟩
  have d3 : decide (limit < (hops.length : Int)) = false := decide_eq_false (by omega)
  by_cases h4 : inner.length ≤ 65536
  rotate_left
  · have d4 : decide (65536 < (inner.length : Int)) = true := decide_eq_true (by omega)
    have Hf := Lib.hid (show r = false by rw [Hr.out, decide_eq_false h4]; simp)
    go_enter Try.func37, Try.ntmps37
    go_wp2_with fail
    go_ret
    exact ⟨ret_b Hf.out.symm, below_one _ _⟩
  have d4 : decide (65536 < (inner.length : Int)) = false := decide_eq_false (by omega)
  have Hf := Lib.hid (show r = okTo hops hops.length by rw [Hr.out, decide_eq_true h1, decide_eq_true h2, decide_eq_true h3, decide_eq_true h4]; simp)
  obtain ⟨n, hn⟩ : ∃ n, n = hops.length := ⟨_, rfl⟩
  rw [← hn] at Hh Hf hc1 h3 d3 ⊢
  have Hn := Lib.hid hn
  clear Hr hn
  go_enter Try.func37, Try.ntmps37
  go_wp2_with fail
  go_loop [30] (fun i => ∃ k : Nat, k ≤ n ∧ i = .int .i64 k ∧ Hid (okTo hops k = true)) (fun i => n - (intOf i).toNat)
  case atStart => exact ⟨0, Nat.zero_le _, rfl, Lib.hid rfl⟩
  case round =>
    obtain ⟨k, hk, rfl, HO⟩ := hrel
    by_cases hkn : k < n
    · obtain ⟨b, off, hA, hcell⟩ := ints_at Hh.out Hn.out (by omega)
      have hck := hcell k hkn
      have hrk := Lib.hid (Rd_take Hh.out k hk)
      subst hA
      obtain ⟨x, hx⟩ : ∃ x, x = hops.getD k 0 := ⟨_, rfl⟩
      rw [← hx] at hck
      have hoa : okAt hops k = (peerB x && !((hops.take k).contains x)) := by rw [okAt, ← hx]
      have hco := contains_any (.slice (some ⟨b, off, none⟩) k c) (hops.take k) x _ (by
        have h := hrk.out
        rw [Nat.mul_one, is_take] at h
        rw [List.length_take, Nat.min_eq_left (by rw [← Hn.out]; omega)]
        exact h)
      generalize (hops.take k).contains x = cb at hco hoa
      generalize hpb : peerB x = pb at hoa
      have hpe : ∀ W, Calls Try.prog 98 #[.int .i64 x] W fun e w' => e = .returned (.bool pb) ∧ w' = W := by intro W; rw [← hpb]; exact peer_any x W
      have Hoa := Lib.hid hoa
      have Hco := Lib.hid hco
      have Hpe := Lib.hid hpe
      have hkc : k ≤ c := by omega
      clear hx hoa hco hpb hpe hcell
      cases pb with
      | false =>
        go_wp2_with (go_at_call 98; refine (Hpe.out _).mono ?_; rintro e w1 ⟨rfl, rfl⟩)
        go_ret
        refine ⟨ret_b ?_, below_one _ _⟩
        rw [Hf.out, okAt_false hops k n hkn (by rw [Hoa.out]; rfl)]
      | true =>
        cases cb with
        | true =>
          go_wp2_with (first
            | (go_at_call 98; refine (Hpe.out _).mono ?_; rintro e w1 ⟨rfl, rfl⟩)
            | (go_at_call 99; refine Hco.out.mono ?_; rintro e w1 ⟨rfl, rfl⟩))
          go_ret
          refine ⟨ret_b ?_, below_one _ _⟩
          rw [Hf.out, okAt_false hops k n hkn (by rw [Hoa.out]; rfl)]
        | false =>
          go_wp2_with (first
            | (go_at_call 98; refine (Hpe.out _).mono ?_; rintro e w1 ⟨rfl, rfl⟩)
            | (go_at_call 99; refine Hco.out.mono ?_; rintro e w1 ⟨rfl, rfl⟩))
          go_round
          case rel => exact ⟨k + 1, by omega, by go_num, Lib.hid (by rw [okTo, HO.out, Hoa.out]; rfl)⟩
          case measure => simp only [intOf]; omega
    · obtain rfl : k = n := by omega
      go_wp2_with fail
      go_ret
      exact ⟨ret_b (by rw [Hf.out, HO.out]), below_one _ _⟩
end Go.Proofs.Ytcjabfdjngekfaa.Rel
