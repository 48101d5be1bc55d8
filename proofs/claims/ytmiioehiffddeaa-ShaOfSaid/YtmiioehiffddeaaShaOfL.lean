/- ShaOf's walk. -/
import Derived.Test.YtmiioehiffddeaaRef02O
import Derived.Test.YtmiioehiffddeaaShaParts
import Derived.Test.YtmiioehiffddeaaOrdL
import Derived.Laws.Bits128
set_option linter.unusedVariables false
set_option linter.unusedSimpArgs false
namespace Go.Proofs.Ytmiioehiffddeaa.Sha
open Go.RowKit Go.Proofs.Ytmiioehiffddeaa.Wd

/-- b[at:at+n], at below the capacity -/
theorem Rd.sub {w : World} {m c : Nat} {A : Option Addr} {xs : List Value} (h : Rd w 1 (.slice A m c) m xs) (at_ n : Nat) (hn : at_ + n ≤ m) : Rd w 1 (.slice (A.map fun x => x.add at_) n (c - at_)) n ((xs.drop at_).take n) := by
  obtain ⟨hl, A', c', hA, h1, h2, h3⟩ := h
  injection hA with hA1 _ hA3
  subst hA1 hA3
  rw [Nat.mul_one] at hl
  refine ⟨by rw [List.length_take, List.length_drop]; omega, _, _, rfl, by omega, by omega, fun h0 => ?_⟩
  obtain ⟨b, off, rfl, hc⟩ := h3 (by omega)
  refine ⟨b, off + at_, by simp [add_plain], fun i hi => ?_⟩
  rw [Nat.add_assoc, hc (at_ + i) (by omega), List.getElem?_take, if_pos (by omega), List.getElem?_drop]
theorem Rd.sub0 {w : World} {m c at_ n : Nat} {A : Option Addr} {xs : List Value} (h : Rd w 1 (.slice A m c) m xs) (hn : at_ + n ≤ m) (hc : c = at_) : Rd w 1 (.slice A n (c - at_)) n ((xs.drop at_).take n) := by
  obtain ⟨hl, A', c', hA, h1, h2, h3⟩ := h
  injection hA with hA1 _ hA3
  subst hA1 hA3
  have : n = 0 := by omega
  subst this
  exact ⟨by simp, _, _, rfl, by omega, by omega, fun h0 => by omega⟩
set_option maxRecDepth 100000 in
set_option maxHeartbeats 4000000 in
theorem ShaOf_any (v : Value) (l : List UInt8) (vc : Value) (lc : List Int) (w : World) (HR : Rd w 1 v l.length (bs l)) (HC : Rd w 1 vc lc.length (lc.map (Value.int .i64))) (hlc : ∀ x ∈ lc, -9223372036854775808 ≤ x ∧ x < 9223372036854775808) :
    Calls Try.prog 12 #[v, vc] w fun e w' => e = .returned (.bool true) ∧ Below w.heap.size w w' := by
  obtain ⟨A, c, rfl, hc1, hc2, -⟩ := HR.slice_
  have HCC := HC
  obtain ⟨Ac, cc, rfl, hd1, hd2, -⟩ := HC.slice_
  unfold maxLen at hc2 hd2
  clear HC
  obtain ⟨pk, hpk⟩ : ∃ pk, pk = l.take 700 := ⟨_, rfl⟩
  generalize hm : l.length = m at HR hc1
  have hpk1 : pk.length = min m 700 := by rw [hpk, List.length_take, hm]; omega
  have hbk0 : ∀ q, q = min m 700 → Rd w 1 (.slice A q c) q (bs pk) ∧ q = pk.length ∧ q ≤ c := by
    intro q hq
    have := Rd.take HR q (by omega)
    have e : (bs l).take (q * 1) = bs pk := by
      rw [hpk, Nat.mul_one]
      simp only [bs, ← List.map_take]
      congr 1
      rcases Nat.le_total m 700 with h2 | h2
      · rw [List.take_of_length_le (by omega), List.take_of_length_le (by omega)]
      · rw [show q = 700 by omega]
    rw [e] at this
    exact ⟨this, by rw [hpk1, ← hq], by omega⟩
  have hks : ∀ q W, Rd W 1 (.slice A q c) q (bs pk) → (convert 23 9 (.slice A q c)).run Try.prog W = .ok (.string (str pk)) W := fun q W h => Rd.string (P := Try.prog) Try.underlying23 Try.underlying5 Try.underlying9 h
  obtain ⟨L, hL⟩ : ∃ L, L = bs (sha pk) := ⟨_, rfl⟩
  have hsl : L.length = 32 := by rw [hL, bs_length, sha_length]
  have h1c : ∀ v ∈ L, v.oneCell' = true := by rw [hL]; exact bs_oneCell _
  have Hi1 : Hid ((Try.prog.info? 47).map (·.size) = some L.length) := by show _ = _; rw [hsl]; rfl
  have hro : ∀ W, Calls Try.prog 54 #[.string (str pk)] W fun e w' => e = .returned (.agg L.toArray) ∧ Below W.heap.size W w' := by
    intro W; rw [hL]; exact rof_any pk (by omega) W
  have Hro := Lib.hid hro
  have HL := Lib.hid hL
  have Hsl := Lib.hid hsl
  have Hpk1 := Lib.hid hpk1
  clear hpk hL hsl hro hpk1 HR
  have hm64 : (m : Int) ≤ 9223372036854775807 := by omega
  by_cases hm7 : 700 < m
  have hd3 : decide (700 < (m : Int)) = true := decide_eq_true (by omega)
  obtain ⟨hR, hq1, hq2⟩ := hbk0 700 (by omega)
  have ks := hks 700 w hR
  rotate_left
  have hd3 : decide (700 < (m : Int)) = false := decide_eq_false (by omega)
  obtain ⟨hR, hq1, hq2⟩ := hbk0 m (by omega)
  have ks := hks m w hR
  all_goals
    have Hq1 := Lib.hid hq1
    clear hbk0 hks hq1 hm
    go_enter Try.func12, Try.ntmps12
    go_wp2_with (first
      | (go_at_call 54; refine (Hro.out _).mono ?_; rintro e w1 ⟨rfl, hb1⟩)
      | (refine wpList_store_all rfl 47 _ _ rfl w1.heap.size L (bpart [] 32) rfl rfl h1c (by rw [Hsl.out]; rfl) Hi1.out 47 (heap_alloc_new _ _) ?_; intro w2 hw2 hg2; have hB2 : Below w.heap.size w w2 := ((hb1.alloc hb1.size _).grown hg2 (by rw [alloc_size]; have := hb1.size; omega) (fun k hk => by injection hk with hk; have := hb1.size; omega)); have hz2 : w1.heap.size < w2.heap.size := blk_lt hw2.out)
      | (go_at_call 26; refine (new_any _).mono ?_; rintro e w3 ⟨g, rfl, H1, hg, hb3⟩))
    have hB3 : Below w.heap.size w w3 := hB2.trans (hb3.mono hB2.size)
    have Hw3 := Lib.hid (blk_below hw2.out hb3)
    have hgl := H1.lt
    have HR' := hR
    rw [Hq1.out] at HR' ⊢
    have hcN : pk.length ≤ c := by rw [← Hq1.out]; exact hq2
    have hN7 : pk.length ≤ 700 := by have := Hpk1.out; omega
    have hz1 : w.heap.size ≤ w1.heap.size := hb1.size
    clear hR ks hb1 hw2 hb3 hg2 hq2
    generalize hN : pk.length = N at HR' hcN hN7 ⊢
    generalize hG : w1.heap.size = G at Hw3 hz2 hz1 ⊢
    have HN := Lib.hid hN
    clear hN hG
    go_loopw [7, 8] (fun va vi wr => ∃ (at_ i : Nat), at_ ≤ N ∧ i ≤ lc.length ∧ i ≤ 30 ∧ va = .int .i64 at_ ∧ vi = .int .i64 i ∧ HashAt wr g (Hs.new.feed (pk.take at_)) ∧ Hid (wr.heap[G]? = some (.cells L.toArray 47 (0, 0))) ∧ Below w.heap.size w wr) (fun _ vi _ => 30 - (intOf vi).toNat)
    case atStart => exact ⟨0, 0, Nat.zero_le _, Nat.zero_le _, by omega, rfl, rfl, H1, Hw3, hB3⟩
    case round =>
      clear H1 Hw3 hB3
      obtain ⟨at_, i, hat, hil, hi30, rfl, rfl, H2, HG, hB⟩ := hrel
      by_cases hlt : i < lc.length ∧ i < 30
      · obtain ⟨hi1, hi2⟩ := hlt
        obtain ⟨bv, off, rfl, -, -, -, hcc⟩ := HCC.at_ (by omega)
        have hc3 := cell_below hB (hcc i (by simpa using hi1))
        rw [List.getElem_map] at hc3
        obtain ⟨y, hy⟩ : ∃ y, y = lc[i] := ⟨_, rfl⟩
        rw [← hy] at hc3
        obtain ⟨y2, hy2⟩ : ∃ y2, y2 = (y % 128).toNat := ⟨_, rfl⟩
        have b1 : bits .and .i64 y 127 = (y2 : Int) := by rw [i64_and127]; omega
        have hy128 : y2 < 128 := by omega
        obtain ⟨n, hn⟩ : ∃ n, n = min y2 (N - at_) := ⟨_, rfl⟩
        have w1' : IntKind.i64.wrap ((N : Int) - (at_ : Int)) = ((N - at_ : Nat) : Int) := by rw [IntKind.wrap_i64]; omega
        have w2' : (N : Int) - (at_ : Int) = ((N - at_ : Nat) : Int) := by omega
        have hd1' : decide (i < lc.length) = true := decide_eq_true hi1
        have hd2' : decide ((i : Int) < 30) = true := decide_eq_true (by omega)
        have hmin : min (y2 : Int) ((N - at_ : Nat) : Int) = (n : Int) := by omega
        have hmin2 : min y2 (N - at_) = n := hn.symm
        have hnN : at_ + n ≤ N := by omega
        have w3' : IntKind.i64.wrap ((at_ : Int) + (n : Int)) = (at_ : Int) + (n : Int) := by rw [IntKind.wrap_i64]; omega
        have w4' : (at_ : Int) ≤ (at_ : Int) + (n : Int) := by omega
        have w5' : (at_ : Int) + (n : Int) ≤ (c : Int) := by omega
        have w6' : (0 : Int) ≤ (at_ : Int) + (n : Int) := by omega
        have w7' : ((at_ : Int) + (n : Int)).toNat = at_ + n := by omega
        have w8' : at_ + n - at_ = n := by omega
        have hch : (bs pk).drop at_ = bs (pk.drop at_) := by simp [bs, List.map_drop]
        have hch2 : (bs (pk.drop at_)).take n = bs ((pk.drop at_).take n) := by simp [bs, List.map_take]
        have hcl : ((pk.drop at_).take n).length = n := by rw [List.length_take, List.length_drop, HN.out]; omega
        have hfe : pk.take (at_ + n) = pk.take at_ ++ (pk.drop at_).take n := List.take_add
        have htake : ∀ v', Rd w 1 v' n (((bs pk).drop at_).take n) → Calls Try.prog 28 #[.pointer (some ⟨g, 0, none⟩), v'] wr fun e w' => e = .returned (.tuple #[]) ∧ HashAt w' g (Hs.new.feed (pk.take (at_ + n))) ∧ wr.grownBy w' (some g) := by
          intro v' hv'
          have hlt := Rd.lt hv'
          rw [hch, hch2] at hv'
          have h1 := take_any g _ wr v' ((pk.drop at_).take n) H2 (by rw [hcl]; exact hv'.below hB) (fun h0 e => by rw [hcl] at h0; have := hlt h0 (by omega) _ e; have := hB2.size; omega) (by rw [feed_n, hcl]; show 0 + (pk.take at_).length + n < _; rw [List.length_take]; omega)
          rw [← feed_append, ← hfe] at h1
          exact h1
        have Htake := Lib.hid htake
        have Hy := Lib.hid hy
        clear hcc hy hy2 hn hch hch2 hcl hfe htake hmin2
        have hlen : ∀ W, HashAt W g (Hs.new.feed (pk.take (at_ + n))) → Calls Try.prog 31 #[.pointer (some ⟨g, 0, none⟩)] W fun e w' => e = .returned (.int .u64 ((at_ + n : Nat) : Int)) ∧ w' = W := by
          intro W hW
          refine (len_any g _ W hW).mono fun e w' ⟨h1, h2⟩ => ⟨by rw [h1, feed_n, show Hs.new.n = 0 from rfl, Nat.zero_add, List.length_take, HN.out, Nat.min_eq_left (by omega)], h2⟩
        have Hlen := Lib.hid hlen
        clear hlen
        by_cases hcat : c = at_
        have hsub := Rd.sub0 HR' hnN hcat
        have hc0 : c - at_ = 0 := by omega
        rw [hc0] at hsub
        have Hcat := Lib.hid hcat
        have w9' : decide (c = at_) = true := decide_eq_true hcat
        clear hcat
        rotate_left
        have hsub := Rd.sub HR' at_ n hnN
        all_goals
          have Hsub := Lib.hid hsub
          clear hsub
          go_wp2_with (first
            | (go_at_call 28; go_fit (Htake.out _ Hsub.out); rintro e w4 ⟨rfl, H4, hg4⟩)
            | (go_at_call 31; go_must (refine (Hlen.out _ H4).mono ?_); rintro e w5 ⟨rfl, rfl⟩))
        all_goals
          exact ⟨⟨at_ + n, i + 1, hnN, by omega, by omega, by go_num, by go_num, H4, blk_grown HG.out hg4 (by intro e; injection e with e; omega), hB.grown hg4 hB.size (fun k hk => by injection hk with hk; omega)⟩, by simp only [intOf]; omega⟩
      · obtain ⟨n, hn⟩ : ∃ n, n = N - at_ := ⟨_, rfl⟩
        have hnN : at_ + n ≤ N := by omega
        have hch : (bs pk).drop at_ = bs (pk.drop at_) := by simp [bs, List.map_drop]
        have hch2 : (bs (pk.drop at_)).take n = bs (pk.drop at_) := by rw [List.take_of_length_le (by rw [bs_length, List.length_drop, HN.out]; omega)]
        have hcl : (pk.drop at_).length = n := by rw [List.length_drop, HN.out]; omega
        have hfe : pk.take at_ ++ pk.drop at_ = pk := List.take_append_drop _ _
        have htake : ∀ v', Rd w 1 v' n (((bs pk).drop at_).take n) → Calls Try.prog 28 #[.pointer (some ⟨g, 0, none⟩), v'] wr fun e w' => e = .returned (.tuple #[]) ∧ HashAt w' g (Hs.new.feed pk) ∧ wr.grownBy w' (some g) := by
          intro v' hv'
          have hlt := Rd.lt hv'
          rw [hch, hch2] at hv'
          have h1 := take_any g _ wr v' (pk.drop at_) H2 (by rw [hcl]; exact hv'.below hB) (fun h0 e => by rw [hcl] at h0; have := hlt h0 (by omega) _ e; have := hB2.size; omega) (by rw [feed_n, hcl]; show 0 + (pk.take at_).length + n < _; rw [List.length_take]; omega)
          rw [← feed_append, hfe] at h1
          exact h1
        have Htake := Lib.hid htake
        have w4' : (at_ : Int) ≤ (N : Int) := by omega
        have w5' : (N : Int) ≤ (c : Int) := by omega
        have hsub' := Rd.sub HR' at_ n hnN
        have hsub0' := fun h => Rd.sub0 HR' hnN (c := c) h
        have hn' : N - at_ = n := hn.symm
        clear hch hch2 hcl hfe htake hn
        by_cases hkl : i < lc.length
        have hd1' : decide (i < lc.length) = true := decide_eq_true hkl
        have hd2' : decide ((i : Int) < 30) = false := decide_eq_false (by omega)
        rotate_left
        have hd1' : decide (i < lc.length) = false := decide_eq_false hkl
        all_goals
          clear hlt
        have hc0 : c = at_ → c - at_ = 0 := by omega
        all_goals
          by_cases hcat : c = at_
        all_goals first
          | (have hsub := hsub0' hcat
             rw [show c - at_ = 0 by omega] at hsub
             have Hsub := Lib.hid hsub
             clear hsub
             subst hcat)
          | (have Hsub := Lib.hid hsub')
        all_goals
          clear hsub' hsub0'
          go_wp2_with (go_at_call 28; go_fit (Htake.out _ Hsub.out); rintro e w4 ⟨rfl, H4, hg4⟩)
        all_goals
          have hB4 := hB.grown hg4 hB.size (fun k hk => by injection hk with hk; omega)
          have HG4 := Lib.hid (blk_grown HG.out hg4 (by intro e; injection e with e; omega))
          have heq : ∀ W, (binOp .eql 47 (.agg L.toArray) (.agg L.toArray)).run Try.prog W = .ok (.bool true) W := by
            intro W
            have h1 := run_eql_bytes W 47 5 32 Try.underlying47 Try.underlying5 sz8 (sha pk) (sha pk) (sha_length _) (sha_length _)
            rw [beq_self_eq_true] at h1
            rw [HL.out]; exact h1
          have hof : ∀ W, Below w4.heap.size w4 W → Calls Try.prog 30 #[.slice A N c] W fun e w' => e = .returned (.agg L.toArray) ∧ Below w4.heap.size w4 w' := by
            intro W hW
            have hb : Below w.heap.size w W := hB4.trans (hW.mono hB4.size)
            exact (of_any _ pk W (by rw [HN.out]; exact HR'.below hb) (by rw [HN.out]; omega)).mono fun e w' ⟨h1, h2⟩ => ⟨by rw [h1, HL.out], hW.trans (h2.mono hW.size)⟩
          have hsum : ∀ W, Below w4.heap.size w4 W → Calls Try.prog 29 #[.pointer (some ⟨g, 0, none⟩)] W fun e w' => e = .returned (.agg L.toArray) ∧ Below w4.heap.size w4 w' := by
            intro W hW
            exact (sum_any g _ W (H4.below hW) (by rw [feed_n, HN.out]; show 0 + N + 128 < _; omega)).mono fun e w' ⟨h1, h2⟩ => ⟨by rw [h1, HL.out]; rfl, hW.trans (h2.mono hW.size)⟩
          have hlen : ∀ W, Below w4.heap.size w4 W → Calls Try.prog 31 #[.pointer (some ⟨g, 0, none⟩)] W fun e w' => e = .returned (.int .u64 (N : Int)) ∧ w' = W := by
            intro W hW
            exact (len_any g _ W (H4.below hW)).mono fun e w' ⟨h1, h2⟩ => ⟨by rw [h1, feed_n, show Hs.new.n = 0 from rfl, Nat.zero_add, HN.out], h2⟩
          have Hof := Lib.hid hof
          have Hsum := Lib.hid hsum
          have Hlen := Lib.hid hlen
          have n1 : IntKind.u64.wrap (N : Int) = (N : Int) := by rw [IntKind.wrap_u64]; omega
          have hrg : ∀ W, Below w4.heap.size w4 W → W.rangeAt G 0 L := fun W hW j v hv => by rw [Nat.zero_add, blk_cell (blk_below HG4.out hW) j]; simpa using hv
          have Hrg := Lib.hid hrg
          clear hof hsum hlen H4 hg4 hrg
          (refine Ord.wp_region_ord [(false, 0), (false, 2), (true, 1), (false, 3), (false, 4), (false, 5), (false, 7), (true, 6), (false, 8), (false, 9), (false, 10), (false, 11), (false, 13), (false, 14), (false, 15), (true, 12), (false, 16), (false, 17), (false, 18), (true, 19), (false, 20), (false, 21)] (fun w' => Below w4.heap.size w4 w') (by kernel_rfl) (by kernel_rfl) (by kernel_rfl) (by kernel_rfl) (by exact (Below.refl _ _).drew) ?_; simp only [Ord.ordOps, List.filterMap_cons, List.filterMap_nil, List.getElem?_toArray, List.getElem?_cons_succ, List.getElem?_cons_zero, Option.map_some]; repeat (first | (refine Ord.wpOrd_skip ?_ ?_; (focus (go_simp; (try (intro h; cases h)); done)); simp only [Act.put, List.setIfInBounds_toArray, List.set_cons_zero, List.set_cons_succ]) | (refine Ord.wpOrd_take (v := ?_) ?_ ?_ ?_; rotate_left; (focus (go_simp; done)); (focus (intro w' hSw; (try dsimp only at hSw); go_simp; (try with_reducible rfl); done)); simp only [Act.put, List.setIfInBounds_toArray, List.set_cons_zero, List.set_cons_succ])))
          refine Ord.wpOrd_load_mid ?_ 47 _ rfl G 0 rfl L _ Hrg.out Try.underlying47 rfl Hi1.out ?_
          · go_simp
          ((try simp only [Act.put, List.setIfInBounds_toArray, List.set_cons_zero, List.set_cons_succ]); repeat (first | (refine Ord.wpOrd_skip ?_ ?_; (focus (go_simp; (try (intro h; cases h)); done)); simp only [Act.put, List.setIfInBounds_toArray, List.set_cons_zero, List.set_cons_succ]) | (refine Ord.wpOrd_take (v := ?_) ?_ ?_ ?_; rotate_left; (focus (go_simp; done)); (focus (intro w' hSw; (try dsimp only at hSw); go_simp; (try with_reducible rfl); done)); simp only [Act.put, List.setIfInBounds_toArray, List.set_cons_zero, List.set_cons_succ])))
          (refine Ord.wpOrd_call ?_ (fun K hK => ?_); (focus (go_simp; done)); go_simp)
          go_at_call 30
          refine (Hof.out _ (Below.refl _ _).drew).mono ?_
          rintro e w6 ⟨rfl, hb6⟩
          (refine hK _ _ (by exact hb6) ?_; clear hK K; (try simp only [Act.put, List.setIfInBounds_toArray, List.set_cons_zero, List.set_cons_succ]); repeat (first | (refine Ord.wpOrd_skip ?_ ?_; (focus (go_simp; (try (intro h; cases h)); done)); simp only [Act.put, List.setIfInBounds_toArray, List.set_cons_zero, List.set_cons_succ]) | (refine Ord.wpOrd_take (v := ?_) ?_ ?_ ?_; rotate_left; (focus (go_simp; done)); (focus (intro w' hSw; (try dsimp only at hSw); go_simp; (try with_reducible rfl); done)); simp only [Act.put, List.setIfInBounds_toArray, List.set_cons_zero, List.set_cons_succ])))
          refine Ord.wpOrd_load_mid ?_ 47 _ rfl G 0 rfl L _ Hrg.out Try.underlying47 rfl Hi1.out ?_
          · go_simp
          ((try simp only [Act.put, List.setIfInBounds_toArray, List.set_cons_zero, List.set_cons_succ]); repeat (first | (refine Ord.wpOrd_skip ?_ ?_; (focus (go_simp; (try (intro h; cases h)); done)); simp only [Act.put, List.setIfInBounds_toArray, List.set_cons_zero, List.set_cons_succ]) | (refine Ord.wpOrd_take (v := ?_) ?_ ?_ ?_; rotate_left; (focus (go_simp; done)); (focus (intro w' hSw; (try dsimp only at hSw); go_simp; (try with_reducible rfl); done)); simp only [Act.put, List.setIfInBounds_toArray, List.set_cons_zero, List.set_cons_succ])))
          (refine Ord.wpOrd_call ?_ (fun K hK => ?_); (focus (go_simp; done)); go_simp)
          go_at_call 29
          refine (Hsum.out _ hb6).mono ?_
          clear hb6
          rintro e w6 ⟨rfl, hb6⟩
          (refine hK _ _ (by exact hb6) ?_; clear hK K; (try simp only [Act.put, List.setIfInBounds_toArray, List.set_cons_zero, List.set_cons_succ]); repeat (first | (refine Ord.wpOrd_skip ?_ ?_; (focus (go_simp; (try (intro h; cases h)); done)); simp only [Act.put, List.setIfInBounds_toArray, List.set_cons_zero, List.set_cons_succ]) | (refine Ord.wpOrd_take (v := ?_) ?_ ?_ ?_; rotate_left; (focus (go_simp; done)); (focus (intro w' hSw; (try dsimp only at hSw); go_simp; (try with_reducible rfl); done)); simp only [Act.put, List.setIfInBounds_toArray, List.set_cons_zero, List.set_cons_succ])))
          (refine Ord.wpOrd_call ?_ (fun K hK => ?_); (focus (go_simp; done)); go_simp)
          go_at_call 31
          refine (Hlen.out _ hb6).mono ?_
          rintro e w7 ⟨rfl, rfl⟩
          (refine hK _ _ (by exact hb6) ?_; clear hK K; (try simp only [Act.put, List.setIfInBounds_toArray, List.set_cons_zero, List.set_cons_succ]); repeat (first | (refine Ord.wpOrd_skip ?_ ?_; (focus (go_simp; (try (intro h; cases h)); done)); simp only [Act.put, List.setIfInBounds_toArray, List.set_cons_zero, List.set_cons_succ]) | (refine Ord.wpOrd_take (v := ?_) ?_ ?_ ?_; rotate_left; (focus (go_simp; done)); (focus (intro w' hSw; (try dsimp only at hSw); go_simp; (try with_reducible rfl); done)); simp only [Act.put, List.setIfInBounds_toArray, List.set_cons_zero, List.set_cons_succ])))
          (refine Ord.wpOrd_call ?_ (fun K hK => ?_); (focus (go_simp; done)); go_simp)
          go_at_call 32
          refine (one_any _).mono ?_
          rintro e w8 ⟨rfl, hb8⟩
          (refine hK _ _ (by exact hb6.trans (hb8.mono hb6.size)) ?_; clear hK K; (try simp only [Act.put, List.setIfInBounds_toArray, List.set_cons_zero, List.set_cons_succ]); repeat (first | (refine Ord.wpOrd_skip ?_ ?_; (focus (go_simp; (try (intro h; cases h)); done)); simp only [Act.put, List.setIfInBounds_toArray, List.set_cons_zero, List.set_cons_succ]) | (refine Ord.wpOrd_take (v := ?_) ?_ ?_ ?_; rotate_left; (focus (go_simp; done)); (focus (intro w' hSw; (try dsimp only at hSw); go_simp; (try with_reducible rfl); done)); simp only [Act.put, List.setIfInBounds_toArray, List.set_cons_zero, List.set_cons_succ])))
          refine Ord.wpOrd_nil ?_
          go_wp2
          go_ret
          exact ⟨rfl, hB4.trans ((hb6.trans (hb8.mono hb6.size)).mono hB4.size)⟩
end Go.Proofs.Ytmiioehiffddeaa.Sha
