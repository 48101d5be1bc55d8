/- ShaParts' walk. -/
import Derived.Test.YtmiioehiffddeaaShaNobody
set_option linter.unusedVariables false
set_option linter.unusedSimpArgs false
namespace Go.Proofs.Ytmiioehiffddeaa.Sha
open Go.RowKit Go.Proofs.Ytmiioehiffddeaa.Wd

theorem Rd.take {w : World} {sz n c : Nat} {A : Option Addr} {xs : List Value} (h : Rd w sz (.slice A n c) n xs) (m : Nat) (hm : m ≤ n) : Rd w sz (.slice A m c) m (xs.take (m * sz)) := by
  obtain ⟨hl, A', c', hA, h1, h2, h3⟩ := h
  injection hA with hA1 _ hA3
  subst hA1 hA3
  have hms : m * sz ≤ n * sz := Nat.mul_le_mul_right _ hm
  refine ⟨by rw [List.length_take, hl]; omega, _, _, rfl, by omega, h2, fun h0 => ?_⟩
  obtain ⟨b, off, rfl, hc⟩ := h3 (by omega)
  exact ⟨b, off, rfl, fun i hi => by rw [hc i (by omega), List.getElem?_take, if_pos hi]⟩
theorem own_grown {w w1 : World} {base size n : Nat} {e : TypeId} {v : Value} {xs : List Value} {row : Option Nat} (h : w.ownsRow base e size v n xs) (hg : w.grownBy w1 row) (hne : ∀ k, row = some k → v.ownBlock ≠ some k) : w1.ownsRow base e size v n xs := by
  refine ⟨h.1, h.2.elim .inl ?_⟩
  rintro ⟨g, cap, cur, rfl, h1, h2, h3⟩
  exact .inr ⟨g, cap, cur, rfl, h1, blk_grown h2 hg (fun e => hne g e.symm rfl), h3⟩
theorem own_below {w w1 : World} {base size n : Nat} {e : TypeId} {v : Value} {xs : List Value} (h : w.ownsRow base e size v n xs) (hb : Below w.heap.size w w1) : w1.ownsRow base e size v n xs :=
  own_grown h (grown_below hb none) (by simp)
theorem own_alloc {w : World} {base size n : Nat} {e : TypeId} {v : Value} {xs : List Value} (h : w.ownsRow base e size v n xs) (o : Obj) : (w.alloc o).ownsRow base e size v n xs :=
  own_below h ((Below.refl _ _).alloc (Nat.le_refl _) o)
def pre (l : List (Value × List UInt8)) : List UInt8 := l.flatMap fun r => r.2.take 200
theorem pre_succ (l : List (Value × List UInt8)) (k : Nat) (h : k < l.length) : pre (l.take (k + 1)) = pre (l.take k) ++ l[k].2.take 200 := by
  unfold pre
  rw [List.take_succ_eq_append_getElem h, List.flatMap_append]
  simp
theorem pre_le (l : List (Value × List UInt8)) (k : Nat) : (pre (l.take k)).length ≤ 200 * k := by
  induction k with
  | zero => simp [pre]
  | succ k ih =>
    by_cases h : k < l.length
    · rw [pre_succ l k h, List.length_append, List.length_take]; omega
    · rw [List.take_of_length_le (by omega)]; rw [List.take_of_length_le (by omega)] at ih; omega
set_option maxRecDepth 100000 in
set_option maxHeartbeats 4000000 in
theorem ShaParts_any (v : Value) (l : List (Value × List UInt8)) (w : World) (HR : Rd w 1 v l.length (l.map (·.1))) (hl : ∀ x ∈ l, Rd w 1 x.1 x.2.length (bs x.2)) : Calls Try.prog 4 #[v] w fun e w' => e = .returned (.bool true) ∧ Below w.heap.size w w' := by
  have Hl := Lib.hid hl
  have HV := HR
  obtain ⟨Av, cv, rfl, hv1, hv2, -⟩ := HR.slice_
  unfold maxLen at hv2
  clear hl HR
  go_enter Try.func4, Try.ntmps4
  go_wp2_with (go_at_call 26; refine (new_any _).mono ?_; rintro e w1 ⟨g, rfl, H1, hg, hb⟩)
  have hg1 := H1.lt
  go_loopw [4, 5] (fun va vi wr => ∃ k : Nat, k ≤ l.length ∧ k ≤ 12 ∧ vi = .int .i64 k ∧ wr.ownsRow w1.heap.size 5 1 va (pre (l.take k)).length (bs (pre (l.take k))) ∧ HashAt wr g (Hs.new.feed (pre (l.take k))) ∧ Below w.heap.size w wr ∧ w1.heap.size ≤ wr.heap.size) (fun _ vi _ => 12 - (intOf vi).toNat)
  case atStart => exact ⟨0, Nat.zero_le _, by omega, rfl, ⟨rfl, .inl ⟨rfl, rfl⟩⟩, H1, hb, Nat.le_refl _⟩
  case round =>
    obtain ⟨k, hk, hk12, rfl, ho, H2, hB, hz⟩ := hrel
    clear H1 hb
    have hpl := pre_le l k
    by_cases hlt : k < l.length ∧ k < 12
    · obtain ⟨hkl, hk2⟩ := hlt
      obtain ⟨bv, off, rfl, -, -, -, hc⟩ := HV.at_ (by omega)
      have hc2 := cell_below hB (hc k (by simpa using hkl))
      rw [List.getElem_map] at hc2
      have hrk := Hl.out _ (List.getElem_mem hkl)
      have hps := pre_succ l k hkl
      obtain ⟨⟨vk, lk⟩, hxk⟩ : ∃ x, x = l[k] := ⟨_, rfl⟩
      rw [← hxk] at hc2 hrk hps
      simp only at hc2 hrk hps
      have hblk : 0 < lk.length → ∀ q, vk.ownBlock = some q → q < w.heap.size := by
        intro h0
        have := Rd.lt (Hl.out _ (List.getElem_mem hkl))
        rw [← hxk] at this
        exact this h0 (by omega)
      obtain ⟨Ak, ck, rfl, hm1, hm2, -⟩ := hrk.slice_
      unfold maxLen at hm2
      generalize hm : lk.length = m at hc2 hrk hm1 hblk
      obtain ⟨pk, hpk⟩ : ∃ pk, pk = lk.take 200 := ⟨_, rfl⟩
      rw [← hpk] at hps
      obtain ⟨acc, hacc⟩ : ∃ acc, acc = pre (l.take k) := ⟨_, rfl⟩
      rw [← hacc] at ho H2 hps hpl
      have hpk1 : pk.length = min m 200 := by rw [hpk, List.length_take, hm]; omega
      have hbk0 : ∀ q, q = min m 200 → Rd w 1 (.slice Ak q ck) pk.length (bs pk) := by
        intro q hq
        have := Rd.take hrk q (by omega)
        have e : (bs lk).take (q * 1) = bs pk := by
          rw [hpk, Nat.mul_one]
          simp only [bs, ← List.map_take]
          congr 1
          rcases Nat.le_total m 200 with h2 | h2
          · rw [List.take_of_length_le (by omega), List.take_of_length_le (by omega)]
          · rw [show q = 200 by omega]
        rw [e] at this
        rw [hpk1, ← hq]; exact this
      have hkn : 0 < pk.length → 0 < m := by omega
      have hblk : ∀ n' : Nat, 0 < m → ∀ q, (Value.slice Ak n' ck).ownBlock = some q → q < w.heap.size := by
        intro n' h0 q hq
        refine hblk h0 q ?_
        cases Ak with
        | none => cases hq
        | some a => exact hq
      have Hps := Lib.hid hps
      have Hpk1 := Lib.hid hpk1
      have Hxk := Lib.hid hxk
      have Hacc := Lib.hid hacc
      clear hps hm hxk hc hpk hpk1 hacc hrk
      have hd1 : decide (k < l.length) = true := decide_eq_true hkl
      have hd2 : decide ((k : Int) < 12) = true := decide_eq_true (by omega)
      by_cases hm200 : 200 < m
      have hbk := hbk0 200 (by omega)
      have hd3 : decide (200 < (m : Int)) = true := decide_eq_true (by omega)
      rotate_left
      have hbk := hbk0 m (by omega)
      have hd3 : decide (200 < (m : Int)) = false := decide_eq_false (by omega)
      all_goals
        clear hbk0
        have Hbk := Lib.hid hbk
        clear hbk
        go_wp2_with (first
          | (go_at_call 27; refine (clone_any g _ wr H2).mono ?_; rintro e w2 ⟨rfl, C2, hb2⟩; have H3 := H2.below hb2; have hg3 := H3.lt; have hB3 := hB.trans (hb2.mono (by omega)); have ho3 := own_below ho hb2; have hlt3 := ho.lt)
          | (go_at_call 28; refine (take_any g _ w2 _ pk H3 (Hbk.out.below hB3) (fun h0 e => by have := hblk _ (hkn h0) _ e; omega) (by rw [feed_n]; show 0 + acc.length + pk.length < _; have := Hpk1.out; omega)).mono ?_; rintro e w3 ⟨rfl, H4, hg4⟩; rw [← feed_append] at H4; have C4 : HashAt w3 wr.heap.size (Hs.new.feed acc) := ⟨blk_grown C2.1 hg4 (by intro e; injection e with e; have := H2.lt; omega), C2.2⟩; have hB4 := hB3.grown hg4 hB3.size (fun q hq => by injection hq with hq; omega); have ho4 := own_grown ho3 hg4 (fun q hq e => by injection hq with hq; have := (hlt3 _ e).1; omega); have hz4 : w1.heap.size ≤ w3.heap.size := (by have := hb2.size; have := hg4.size; omega))
          | (at_builtin; go_must (refine app_row elU8 rfl (.tmp 33) (.tmp 34) rfl w1.heap.size _ _ acc.length pk.length (bs acc) (bs pk) rfl rfl (bs_oneCell pk) ho4 (Hbk.out.below hB4) (Below.refl _ w3) hz4 (by have := Hpk1.out; omega) ?_); intro v5 w5 ho5 hB5 hg5 hat5; rw [← bs_append, ← List.length_append, ← Hps.out] at ho5; rw [← Hps.out] at H4))
        have hg5' : w3.grownBy w5 u4.ownBlock := hg5
        have hat6 : ∀ q, v5.ownBlock = some q → q ≠ wr.heap.size := by
          intro q hq e
          have h6 := C4.lt
          rcases hat5 with h5 | ⟨b5, h5, h7⟩
          · have h8 : u4.ownBlock = some q := h5.symm.trans hq
            have := hlt3 _ h8; omega
          · rw [hq] at h5; injection h5 with h5; omega
        clear hg5 hat5
        have hown4 : ∀ q, u4.ownBlock = some q → w1.heap.size ≤ q ∧ q < wr.heap.size := hlt3
        have H5 : HashAt w5 g (Hs.new.feed (pre (l.take (k + 1)))) := ⟨blk_grown H4.1 hg5' (fun e => by have := hown4 _ e.symm; omega), H4.2⟩
        have C5 : HashAt w5 wr.heap.size (Hs.new.feed acc) := ⟨blk_grown C4.1 hg5' (fun e => by have := hown4 _ e.symm; omega), C4.2⟩
        have hB6 : Below w.heap.size w w5 := hB4.grown hg5' hB4.size (fun q hq => by have := hown4 _ hq; have := hB.size; omega)
        obtain ⟨acc2, hacc2⟩ : ∃ acc2, acc2 = pre (l.take (k + 1)) := ⟨_, rfl⟩
        rw [← hacc2] at H5 ho5
        have hn2 : acc2.length = acc.length + pk.length := by rw [hacc2, Hps.out, List.length_append]
        have ht2 : acc2.take acc.length = acc := by rw [hacc2, Hps.out, List.take_left]
        clear C4 H4 ho4 hB4 H3 hB3 ho3 C2 hg4 hg5' hb2 ho H2
        obtain ⟨A5, c5, rfl, hc5, hc6, -⟩ := (Rd.of_own ho5).slice_
        have hr5 := Rd.of_own ho5
        obtain ⟨S2, hS2⟩ : ∃ S2, S2 = sha acc2 := ⟨_, rfl⟩
        obtain ⟨S1, hS1⟩ : ∃ S1, S1 = sha acc := ⟨_, rfl⟩
        have hq2 : ∀ W, (binOp .neq 48 (.agg (bs S2).toArray) (.agg (bs S2).toArray)).run Try.prog W = .ok (.bool false) W := by
          intro W; have := neqSum W S2 S2 (by rw [hS2]; exact sha_length _) (by rw [hS2]; exact sha_length _); rw [beq_self_eq_true] at this; exact this
        have hq1 : ∀ W, (binOp .neq 48 (.agg (bs S1).toArray) (.agg (bs S1).toArray)).run Try.prog W = .ok (.bool false) W := by
          intro W; have := neqSum W S1 S1 (by rw [hS1]; exact sha_length _) (by rw [hS1]; exact sha_length _); rw [beq_self_eq_true] at this; exact this
        have hsum2 : ∀ W, Below w5.heap.size w5 W → Calls Try.prog 29 #[.pointer (some ⟨g, 0, none⟩)] W fun e w' => e = .returned (.agg (bs S2).toArray) ∧ Below w5.heap.size w5 w' := by
          intro W hW
          refine (sum_any g _ W (H5.below hW) (by rw [feed_n]; show 0 + acc2.length + 128 < _; have := Hpk1.out; omega)).mono fun e w' ⟨h1, h2⟩ => ⟨by rw [h1, hS2]; rfl, hW.trans (h2.mono hW.size)⟩
        have hsum1 : ∀ W, Below w5.heap.size w5 W → Calls Try.prog 29 #[.pointer (some ⟨wr.heap.size, 0, none⟩)] W fun e w' => e = .returned (.agg (bs S1).toArray) ∧ Below w5.heap.size w5 w' := by
          intro W hW
          refine (sum_any _ _ W (C5.below hW) (by rw [feed_n]; show 0 + acc.length + 128 < _; omega)).mono fun e w' ⟨h1, h2⟩ => ⟨by rw [h1, hS1]; rfl, hW.trans (h2.mono hW.size)⟩
        have hof2 : ∀ W, Below w5.heap.size w5 W → Calls Try.prog 30 #[.slice A5 acc2.length c5] W fun e w' => e = .returned (.agg (bs S2).toArray) ∧ Below w5.heap.size w5 w' := by
          intro W hW
          refine (of_any _ acc2 W (hr5.below hW) (by have := Hpk1.out; omega)).mono fun e w' ⟨h1, h2⟩ => ⟨by rw [h1, hS2], hW.trans (h2.mono hW.size)⟩
        have hof1 : ∀ W, Below w5.heap.size w5 W → Calls Try.prog 30 #[.slice A5 acc.length c5] W fun e w' => e = .returned (.agg (bs S1).toArray) ∧ Below w5.heap.size w5 w' := by
          intro W hW
          have h0 := Rd.take (hr5.below hW) acc.length (by omega)
          have e0 : (bs acc2).take (acc.length * 1) = bs acc := by rw [Nat.mul_one]; simp only [bs, ← List.map_take]; rw [ht2]
          rw [e0] at h0
          refine (of_any _ acc W h0 (by omega)).mono fun e w' ⟨h1, h2⟩ => ⟨by rw [h1, hS1], hW.trans (h2.mono hW.size)⟩
        have hlen : ∀ W, HashAt W g (Hs.new.feed acc2) → Calls Try.prog 31 #[.pointer (some ⟨g, 0, none⟩)] W fun e w' => e = .returned (.int .u64 (acc2.length : Int)) ∧ w' = W := by
          intro W hW
          refine (len_any g _ W hW).mono fun e w' ⟨h1, h2⟩ => ⟨by rw [h1, feed_n, show Hs.new.n = 0 from rfl, Nat.zero_add], h2⟩
        have Hlen := Lib.hid hlen
        have Ho5 := Lib.hid ho5
        have Hat6 := Lib.hid hat6
        have Hsum2 := Lib.hid hsum2
        have Hsum1 := Lib.hid hsum1
        have Hof2 := Lib.hid hof2
        have Hof1 := Lib.hid hof1
        have hl2 : acc2.length ≤ 2400 := by have := Hpk1.out; omega
        have hn3 : (acc2.length : Int) ≤ c5 := by omega
        generalize hN2 : acc2.length = N2 at Hof2 Hof1 hn2 hc5 hn3 hl2 Hlen Hat6 Ho5 ⊢
        generalize hN1 : acc.length = N1 at Hof1 hn2 hpl
        have hn4 : N1 ≤ N2 := by omega
        have hn5 : N2 = N1 + min m 200 := by have := Hpk1.out; omega
        have HN2 := Lib.hid hN2
        have HN1 := Lib.hid hN1
        have Hn2 := Lib.hid hn2
        have Hacc2 := Lib.hid hacc2
        clear hlen hat6 hsum2 hsum1 hof2 hof1 hS2 hS1 ht2 hN2 hN1 hn2 hacc2 ho5 hr5
      have hw1 : IntKind.i64.wrap ((N2 : Int) - (m : Int)) = (N1 : Int) := by rw [IntKind.wrap_i64]; omega
      have hw2 : (N2 : Int) - (m : Int) = (N1 : Int) := by omega
      rotate_left
      have hw1 : IntKind.i64.wrap ((N2 : Int) - 200) = (N1 : Int) := by rw [IntKind.wrap_i64]; omega
      have hw2 : (N2 : Int) - 200 = (N1 : Int) := by omega
      all_goals
        have hn6 : (N1 : Int) ≤ (c5 : Int) := by omega
        have hn7 : N1 ≤ c5 := by omega
        have hn8 : (0 : Int) ≤ (N1 : Int) := by omega
        have hw3 : IntKind.i64.wrap (N1 : Int) = (N1 : Int) := by rw [IntKind.wrap_i64]; omega
        clear hn5
        (refine Ord.wp_region_ord [(false, 0), (false, 2), (true, 1), (true, 3), (false, 4), (false, 5), (false, 6), (false, 8), (true, 7), (true, 9), (false, 10), (false, 11), (false, 12), (false, 13), (false, 15), (false, 16), (false, 17), (false, 18), (false, 19), (false, 20), (false, 21), (true, 14), (true, 22), (false, 23), (false, 24)] (fun w' => Below w5.heap.size w5 w') (by kernel_rfl) (by kernel_rfl) (by kernel_rfl) (by kernel_rfl) (by exact (Below.refl _ _).drew) ?_; simp only [Ord.ordOps, List.filterMap_cons, List.filterMap_nil, List.getElem?_toArray, List.getElem?_cons_succ, List.getElem?_cons_zero, Option.map_some]; repeat (first | (refine Ord.wpOrd_skip ?_ ?_; (focus (go_simp; (try (intro h; cases h)); done)); simp only [Act.put, List.setIfInBounds_toArray, List.set_cons_zero, List.set_cons_succ]) | (refine Ord.wpOrd_take (v := ?_) ?_ ?_ ?_; rotate_left; (focus (go_simp; done)); (focus (intro w' hSw; (try dsimp only at hSw); go_simp; (try with_reducible rfl); done)); simp only [Act.put, List.setIfInBounds_toArray, List.set_cons_zero, List.set_cons_succ])))
        (refine Ord.wpOrd_call ?_ (fun K hK => ?_); (focus (go_simp; done)); go_simp)
        go_at_call 29
        refine (Hsum2.out _ (Below.refl _ _).drew).mono ?_
        rintro e w6 ⟨rfl, hb6⟩
        (refine hK _ _ (by exact hb6) ?_; clear hK K; (try simp only [Act.put, List.setIfInBounds_toArray, List.set_cons_zero, List.set_cons_succ]); repeat (first | (refine Ord.wpOrd_skip ?_ ?_; (focus (go_simp; (try (intro h; cases h)); done)); simp only [Act.put, List.setIfInBounds_toArray, List.set_cons_zero, List.set_cons_succ]) | (refine Ord.wpOrd_take (v := ?_) ?_ ?_ ?_; rotate_left; (focus (go_simp; done)); (focus (intro w' hSw; (try dsimp only at hSw); go_simp; (try with_reducible rfl); done)); simp only [Act.put, List.setIfInBounds_toArray, List.set_cons_zero, List.set_cons_succ])))
        (refine Ord.wpOrd_call ?_ (fun K hK => ?_); (focus (go_simp; done)); go_simp)
        go_at_call 30
        refine (Hof2.out _ hb6).mono ?_
        clear hb6
        rintro e w6 ⟨rfl, hb6⟩
        (refine hK _ _ (by exact hb6) ?_; clear hK K; (try simp only [Act.put, List.setIfInBounds_toArray, List.set_cons_zero, List.set_cons_succ]); repeat (first | (refine Ord.wpOrd_skip ?_ ?_; (focus (go_simp; (try (intro h; cases h)); done)); simp only [Act.put, List.setIfInBounds_toArray, List.set_cons_zero, List.set_cons_succ]) | (refine Ord.wpOrd_take (v := ?_) ?_ ?_ ?_; rotate_left; (focus (go_simp; done)); (focus (intro w' hSw; (try dsimp only at hSw); go_simp; (try with_reducible rfl); done)); simp only [Act.put, List.setIfInBounds_toArray, List.set_cons_zero, List.set_cons_succ])))
        (refine Ord.wpOrd_call ?_ (fun K hK => ?_); (focus (go_simp; done)); go_simp)
        go_at_call 29
        refine (Hsum2.out _ hb6).mono ?_
        clear hb6
        rintro e w6 ⟨rfl, hb6⟩
        (refine hK _ _ (by exact hb6) ?_; clear hK K; (try simp only [Act.put, List.setIfInBounds_toArray, List.set_cons_zero, List.set_cons_succ]); repeat (first | (refine Ord.wpOrd_skip ?_ ?_; (focus (go_simp; (try (intro h; cases h)); done)); simp only [Act.put, List.setIfInBounds_toArray, List.set_cons_zero, List.set_cons_succ]) | (refine Ord.wpOrd_take (v := ?_) ?_ ?_ ?_; rotate_left; (focus (go_simp; done)); (focus (intro w' hSw; (try dsimp only at hSw); go_simp; (try with_reducible rfl); done)); simp only [Act.put, List.setIfInBounds_toArray, List.set_cons_zero, List.set_cons_succ])))
        (refine Ord.wpOrd_call ?_ (fun K hK => ?_); (focus (go_simp; done)); go_simp)
        go_at_call 29
        refine (Hsum2.out _ hb6).mono ?_
        clear hb6
        rintro e w6 ⟨rfl, hb6⟩
        (refine hK _ _ (by exact hb6) ?_; clear hK K; (try simp only [Act.put, List.setIfInBounds_toArray, List.set_cons_zero, List.set_cons_succ]); repeat (first | (refine Ord.wpOrd_skip ?_ ?_; (focus (go_simp; (try (intro h; cases h)); done)); simp only [Act.put, List.setIfInBounds_toArray, List.set_cons_zero, List.set_cons_succ]) | (refine Ord.wpOrd_take (v := ?_) ?_ ?_ ?_; rotate_left; (focus (go_simp; done)); (focus (intro w' hSw; (try dsimp only at hSw); go_simp; (try with_reducible rfl); done)); simp only [Act.put, List.setIfInBounds_toArray, List.set_cons_zero, List.set_cons_succ])))
        (refine Ord.wpOrd_call ?_ (fun K hK => ?_); (focus (go_simp; done)); go_simp)
        go_at_call 29
        refine (Hsum1.out _ hb6).mono ?_
        clear hb6
        rintro e w6 ⟨rfl, hb6⟩
        (refine hK _ _ (by exact hb6) ?_; clear hK K; (try simp only [Act.put, List.setIfInBounds_toArray, List.set_cons_zero, List.set_cons_succ]); repeat (first | (refine Ord.wpOrd_skip ?_ ?_; (focus (go_simp; (try (intro h; cases h)); done)); simp only [Act.put, List.setIfInBounds_toArray, List.set_cons_zero, List.set_cons_succ]) | (refine Ord.wpOrd_take (v := ?_) ?_ ?_ ?_; rotate_left; (focus (go_simp; done)); (focus (intro w' hSw; (try dsimp only at hSw); go_simp; (try with_reducible rfl); done)); simp only [Act.put, List.setIfInBounds_toArray, List.set_cons_zero, List.set_cons_succ])))
        (refine Ord.wpOrd_call ?_ (fun K hK => ?_); (focus (go_simp; done)); go_simp)
        go_at_call 30
        refine (Hof1.out _ hb6).mono ?_
        clear hb6
        rintro e w6 ⟨rfl, hb6⟩
        (refine hK _ _ (by exact hb6) ?_; clear hK K; (try simp only [Act.put, List.setIfInBounds_toArray, List.set_cons_zero, List.set_cons_succ]); repeat (first | (refine Ord.wpOrd_skip ?_ ?_; (focus (go_simp; (try (intro h; cases h)); done)); simp only [Act.put, List.setIfInBounds_toArray, List.set_cons_zero, List.set_cons_succ]) | (refine Ord.wpOrd_take (v := ?_) ?_ ?_ ?_; rotate_left; (focus (go_simp; done)); (focus (intro w' hSw; (try dsimp only at hSw); go_simp; (try with_reducible rfl); done)); simp only [Act.put, List.setIfInBounds_toArray, List.set_cons_zero, List.set_cons_succ])))
        refine Ord.wpOrd_nil ?_
        have H6 := H5.below hb6
        have C6 := C5.below hb6
        have ho6 := own_below Ho5.out hb6
        have hB7 := hB6.trans (hb6.mono hB6.size)
        have hlt6 := C6.lt
        have hz6 : w1.heap.size ≤ w6.heap.size := by omega
        have kc := fun (w : World) (C : Array Value) (n c : Nat) => Lib.run_convert_bytes_const (P := Try.prog) w 23 5 C n c Try.underlying23 Try.underlying5
        have HR6 := Rd.marked w6 1 1 (bs [120]) 5 (1, 2) rfl (by simp [maxLen])
        have htk := take_any wr.heap.size _ (w6.alloc (.cells #[.int .u8 120] 5 (1, 2))) (.slice (some ⟨w6.heap.size, 0, none⟩) 1 1) [120] ⟨blk_alloc C6.1 _, C6.2⟩ HR6 (fun _ e => by have e2 : some w6.heap.size = some wr.heap.size := e; injection e2 with e2; omega) (by rw [feed_n]; show 0 + acc.length + 1 < _; have := HN1.out; omega)
        have Htk := Lib.hid htk
        clear htk H5 C5 hb6 Hsum2 Hsum1 Hof2 Hof1 hq1 hq2
        go_wp2_with (first
          | (go_at_call 28; go_must (refine Htk.out.mono ?_); go_loud (rintro e w7 ⟨rfl, -, hg7⟩; have H7 : HashAt w7 g (Hs.new.feed acc2) := ⟨blk_grown (blk_alloc H6.1 _) hg7 (by intro e; injection e with e; omega), H6.2⟩; have ho7 := own_grown (own_alloc ho6 (.cells #[.int .u8 120] 5 (1, 2))) hg7 (fun q hq e => by injection hq with hq; exact Hat6.out _ e hq.symm); have hB8 := (hB7.alloc hB7.size (.cells #[.int .u8 120] 5 (1, 2))).grown hg7 (by rw [alloc_size]; have := hB7.size; omega) (fun q hq => by injection hq with hq; have := hB.size; omega); have hz8 : w1.heap.size ≤ w7.heap.size := (by have := hg7.size; rw [alloc_size] at this; omega)))
          | (go_at_call 31; go_must (refine (Hlen.out _ H7).mono ?_); rintro e w8 ⟨rfl, rfl⟩))
        rw [← HN2.out] at ho7 ⊢
        rw [Hacc2.out] at ho7 H7 ⊢
        exact ⟨⟨k + 1, by omega, by omega, by go_num, ho7, H7, hB8, hz8⟩, by simp only [intOf]; omega⟩
    · obtain ⟨acc, hacc⟩ : ∃ acc, acc = pre (l.take k) := ⟨_, rfl⟩
      rw [← hacc] at ho H2 hpl
      have hr := Rd.of_own ho
      obtain ⟨S, hS⟩ : ∃ S, S = sha acc := ⟨_, rfl⟩
      have hq : ∀ W, (binOp .eql 48 (.agg (bs S).toArray) (.agg (bs S).toArray)).run Try.prog W = .ok (.bool true) W := by
        intro W; have := eqlSum W S S (by rw [hS]; exact sha_length _) (by rw [hS]; exact sha_length _); rw [beq_self_eq_true] at this; exact this
      have hsum : Calls Try.prog 29 #[.pointer (some ⟨g, 0, none⟩)] wr fun e w' => e = .returned (.agg (bs S).toArray) ∧ Below wr.heap.size wr w' :=
        (sum_any g _ wr H2 (by rw [feed_n]; show 0 + acc.length + 128 < _; omega)).mono fun e w' ⟨h1, h2⟩ => ⟨by rw [h1, hS]; rfl, h2⟩
      have hof : ∀ W, Below wr.heap.size wr W → Calls Try.prog 30 #[u4] W fun e w' => e = .returned (.agg (bs S).toArray) ∧ Below W.heap.size W w' :=
        fun W hW => (of_any u4 acc W (hr.below hW) (by omega)).mono fun e w' ⟨h1, h2⟩ => ⟨by rw [h1, hS], h2⟩
      have Hsum := Lib.hid hsum
      have Hof := Lib.hid hof
      clear hsum hof hS hacc hr ho H2
      by_cases hkl : k < l.length
      have hk12' : k = 12 := by omega
      have hd1 : decide (k < l.length) = true := decide_eq_true hkl
      have hd2 : decide ((k : Int) < 12) = false := decide_eq_false (by omega)
      have hd3 : decide (k < 12) = false := decide_eq_false (by omega)
      clear hk12'
      rotate_left
      have hd1 : decide (k < l.length) = false := decide_eq_false hkl
      all_goals
        clear hlt
        go_wp2_with (first
          | (go_at_call 29; go_must (refine Hsum.out.mono ?_); rintro e w2 ⟨rfl, hb2⟩; have hB2 := hB.trans (hb2.mono hB.size))
          | (go_at_call 30; go_must (refine (Hof.out _ hb2).mono ?_); rintro e w3 ⟨rfl, hb3⟩; have hB3 := hB2.trans (hb3.mono hB2.size))
          | (go_at_call 32; go_must (refine (one_any _).mono ?_); rintro e w4 ⟨rfl, hb4⟩))
        go_ret
        exact ⟨rfl, hB3.trans (hb4.mono hB3.size)⟩
end Go.Proofs.Ytmiioehiffddeaa.Sha
