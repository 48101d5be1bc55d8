/- Walks of layer 26: same; the reference's Right. -/
import Derived.Test.YtcjabfdjngekfaaRelW2
set_option linter.unusedVariables false
set_option linter.unusedSimpArgs false
namespace Go.Proofs.Ytcjabfdjngekfaa.Rel
open Go.RowKit Go.Proofs.Ytcjabfdjngekfaa.Wd Go.Proofs.Ytcjabfdjngekfaa.Use Go.Proofs.Ytcjabfdjngekfaa.Lay

set_option maxRecDepth 100000 in
set_option maxHeartbeats 1000000 in
theorem same_any (hops : List Int) (limit : Int) (s : ByteArray) (va vb : Value) (w : World) (ha : Rd w 1 va hops.length (is hops)) (hb : Rd w 1 vb hops.length (is hops)) :
    Calls Try.prog 42 #[.agg #[va, .int .i64 limit, .string s], .agg #[vb, .int .i64 limit, .string s]] w fun e w' => e = .returned (.bool true) ∧ Below w.heap.size w w' := by
  obtain ⟨A, ca, rfl, ha1, ha2, -⟩ := ha.slice_
  obtain ⟨B, cb, rfl, hb1, hb2, -⟩ := hb.slice_
  unfold maxLen at ha2 hb2
  obtain ⟨W0, hW0⟩ : ∃ W, W = (w.alloc (.cells #[.slice A hops.length ca, .int .i64 limit, .string s] 57)).alloc (.cells #[.slice B hops.length cb, .int .i64 limit, .string s] 57) := ⟨_, rfl⟩
  have hB0 : Below w.heap.size w W0 := by rw [hW0]; exact below_two _ _ _
  have hg0 : W0.heap[w.heap.size]? = some (.cells #[.slice A hops.length ca, .int .i64 limit, .string s] 57 (0, 0)) := by rw [hW0]; exact blk_alloc (heap_alloc_new _ _) _
  have hg1 : W0.heap[w.heap.size + 1]? = some (.cells #[.slice B hops.length cb, .int .i64 limit, .string s] 57 (0, 0)) := by rw [hW0]; exact alloc_at _ _ _
  have hra := ha.below hB0
  have hrb := hb.below hB0
  obtain ⟨n, hn⟩ : ∃ n, n = hops.length := ⟨_, rfl⟩
  rw [← hn] at hra hrb ha1 hb1 hW0 hg0 hg1 ⊢
  have hcel : ∀ W, Below W0.heap.size W0 W → (W.cell? ⟨w.heap.size, 0, none⟩ = some (.slice A n ca) ∧ W.cell? ⟨w.heap.size, 1, none⟩ = some (.int .i64 limit) ∧ W.cell? ⟨w.heap.size, 2, none⟩ = some (.string s)) ∧ (W.cell? ⟨w.heap.size + 1, 0, none⟩ = some (.slice B n cb) ∧ W.cell? ⟨w.heap.size + 1, 1, none⟩ = some (.int .i64 limit) ∧ W.cell? ⟨w.heap.size + 1, 2, none⟩ = some (.string s)) := fun W hW => ⟨env_cells (blk_below hg0 hW), env_cells (blk_below hg1 hW)⟩
  have HW0 := Lib.hid hW0
  have Hcel := Lib.hid hcel
  have Hra := Lib.hid hra
  have Hrb := Lib.hid hrb
  have Hn := Lib.hid hn
  clear hW0 hg0 hg1 hra hrb hcel hn ha hb
  obtain ⟨⟨k0, k1, k2⟩, j0, j1, j2⟩ := Hcel.out W0 (Below.refl _ _)
  go_enter Try.func42, Try.ntmps42
  go_upto_region 1 with fail
  rw [← HW0.out]
  go_wp2_with fail
  clear k0 k1 k2 j0 j1 j2
  go_loopw [5] (fun i wr => ∃ k : Nat, k ≤ n ∧ i = .int .i64 k ∧ Below W0.heap.size W0 wr) (fun i _ => n - (intOf i).toNat)
  case atStart => exact ⟨0, Nat.zero_le _, rfl, Below.refl _ _⟩
  case round =>
    obtain ⟨k, hk, rfl, hB⟩ := hrel
    obtain ⟨⟨k0, k1, k2⟩, j0, j1, j2⟩ := Hcel.out wr hB
    by_cases hkn : k < n
    · obtain ⟨b, off, hA, hcell⟩ := ints_at (Hra.out.below hB) Hn.out (by omega)
      obtain ⟨b2, off2, hA2, hcell2⟩ := ints_at (Hrb.out.below hB) Hn.out (by omega)
      have hck := hcell k hkn
      have hck2 := hcell2 k hkn
      subst hA hA2
      generalize hops.getD k 0 = x at hck hck2
      clear hcell hcell2
      go_wp2_with fail
      (refine Ord.wp_region_ord [(false, 0), (false, 1), (false, 2), (false, 3), (false, 4), (false, 5), (false, 6), (false, 7), (false, 8), (false, 9), (false, 10)] (fun W => W.cell? ⟨w.heap.size, 0, none⟩ = some (.slice (some ⟨b, off, none⟩) n ca) ∧ W.cell? ⟨w.heap.size + 1, 0, none⟩ = some (.slice (some ⟨b2, off2, none⟩) n cb) ∧ W.cell? ⟨b, off + k, none⟩ = some (.int .i64 x) ∧ W.cell? ⟨b2, off2 + k, none⟩ = some (.int .i64 x)) (by kernel_rfl) (by kernel_rfl) (by kernel_rfl) (by kernel_rfl) (by exact ⟨k0, j0, hck, hck2⟩) ?_; simp only [Ord.ordOps, List.filterMap_cons, List.filterMap_nil, List.getElem?_toArray, List.getElem?_cons_succ, List.getElem?_cons_zero, Option.map_some]; repeat (first | (refine Ord.wpOrd_skip ?_ ?_; (focus (go_simp; (try (intro h; cases h)); done)); simp only [Act.put, List.setIfInBounds_toArray, List.set_cons_zero, List.set_cons_succ]) | (refine Ord.wpOrd_take (v := ?_) ?_ ?_ ?_; rotate_left; (focus (go_simp; done)); (focus (intro w' hSw; (try dsimp only at hSw); go_simp; (try with_reducible rfl); done)); simp only [Act.put, List.setIfInBounds_toArray, List.set_cons_zero, List.set_cons_succ])))
      refine Ord.wpOrd_nil ?_
      go_wp2_with fail
      exact ⟨⟨k + 1, by omega, by go_num, hB.drew⟩, by simp only [intOf]; omega⟩
    · obtain rfl : k = n := by omega
      go_wp2_with fail
      go_ret
      exact ⟨rfl, below_go hB hB0⟩
set_option maxRecDepth 100000 in
set_option maxHeartbeats 2000000 in
theorem rright_any (e : E) (hv : Value) (w : World) (he : EIn w e hv) : Calls Try.prog 38 #[.agg #[hv, .int .i64 e.limit, .string (str e.inner)]] w fun r w' => r = .returned (.bool e.right) ∧ Below w.heap.size w w' := by
  obtain ⟨A, c, rfl, hc1, hc2, -⟩ := he.hops.slice_
  unfold maxLen at hc2
  obtain ⟨hh, ⟨l1, l2⟩, -, hin⟩ := he
  obtain ⟨hops, limit, inner⟩ := e
  simp only at hh l1 l2 hin hc1 ⊢
  have hr : E.right ⟨hops, limit, inner⟩ = (decide (0 ≤ limit) && decide (limit ≤ 8) && decide ((hops.length : Int) ≤ limit) && decide (inner.length ≤ 65536) && okTo hops hops.length) := rfl
  generalize E.right ⟨hops, limit, inner⟩ = r at hr ⊢
  have Hr := Lib.hid hr
  clear hr
  by_cases h1 : 0 ≤ limit
  rotate_left
  · have d1 : decide (limit < 0) = true := decide_eq_true (by omega)
    have Hf := Lib.hid (show r = false by rw [Hr.out, decide_eq_false h1]; rfl)
    go_enter Try.func38, Try.ntmps38
    go_wp2_with fail
    go_ret
    exact ⟨ret_b Hf.out.symm, below_one _ _⟩
  have d1 : decide (limit < 0) = false := decide_eq_false (by omega)
  by_cases h2 : limit ≤ 8
  rotate_left
  · have d2 : decide (8 < limit) = true := decide_eq_true (by omega)
    have Hf := Lib.hid (show r = false by rw [Hr.out, decide_eq_false h2]; simp)
    go_enter Try.func38, Try.ntmps38
    go_wp2_with fail
    go_ret
    exact ⟨ret_b Hf.out.symm, below_one _ _⟩
  have d2 : decide (8 < limit) = false := decide_eq_false (by omega)
  by_cases h3 : (hops.length : Int) ≤ limit
  rotate_left
  · have d3 : decide (limit < (hops.length : Int)) = true := decide_eq_true (by omega)
    have Hf := Lib.hid (show r = false by rw [Hr.out, decide_eq_false h3]; simp)
    go_enter Try.func38, Try.ntmps38
    go_wp2_with fail
    go_ret
    exact ⟨ret_b Hf.out.symm, below_one _ _⟩
  have d3 : decide (limit < (hops.length : Int)) = false := decide_eq_false (by omega)
  by_cases h4 : inner.length ≤ 65536
  rotate_left
  · have d4 : decide (65536 < (inner.length : Int)) = true := decide_eq_true (by omega)
    have Hf := Lib.hid (show r = false by rw [Hr.out, decide_eq_false h4]; simp)
    go_enter Try.func38, Try.ntmps38
    go_wp2_with fail
    go_ret
    exact ⟨ret_b Hf.out.symm, below_one _ _⟩
  have d4 : decide (65536 < (inner.length : Int)) = false := decide_eq_false (by omega)
  have Hf := Lib.hid (show r = okTo hops hops.length by rw [Hr.out, decide_eq_true h1, decide_eq_true h2, decide_eq_true h3, decide_eq_true h4]; simp)
  obtain ⟨W0, hW0⟩ : ∃ W, W = w.alloc (.cells #[.slice A hops.length c, .int .i64 limit, .string (str inner)] 57) := ⟨_, rfl⟩
  have hB0 : Below w.heap.size w W0 := by rw [hW0]; exact below_one _ _
  have hg0 : W0.heap[w.heap.size]? = some (.cells #[.slice A hops.length c, .int .i64 limit, .string (str inner)] 57 (0, 0)) := by rw [hW0]; exact heap_alloc_new _ _
  have hh0 := hh.below hB0
  obtain ⟨n, hn⟩ : ∃ n, n = hops.length := ⟨_, rfl⟩
  rw [← hn] at hh0 Hf hc1 h3 d3 hW0 hg0 ⊢
  have hcel : ∀ W, Below W0.heap.size W0 W → W.cell? ⟨w.heap.size, 0, none⟩ = some (.slice A n c) ∧ W.cell? ⟨w.heap.size, 1, none⟩ = some (.int .i64 limit) ∧ W.cell? ⟨w.heap.size, 2, none⟩ = some (.string (str inner)) := fun W hW => env_cells (blk_below hg0 hW)
  have Hn := Lib.hid hn
  have Hh := Lib.hid hh0
  have HW0 := Lib.hid hW0
  have Hcel := Lib.hid hcel
  clear Hr hn hh hh0 hW0 hg0 hcel
  obtain ⟨k0, k1, k2⟩ := Hcel.out W0 (Below.refl _ _)
  go_enter Try.func38, Try.ntmps38
  go_upto_region 1 with fail
  rw [← HW0.out]
  go_wp2_with fail
  clear k0 k1 k2
  go_loopw [3] (fun i wr => ∃ k : Nat, k ≤ n ∧ i = .int .i64 k ∧ Hid (okTo hops k = true) ∧ Below W0.heap.size W0 wr) (fun i _ => n - (intOf i).toNat)
  case atStart => exact ⟨0, Nat.zero_le _, rfl, Lib.hid rfl, Below.refl _ _⟩
  case round =>
    obtain ⟨k, hk, rfl, HO, hB⟩ := hrel
    obtain ⟨k0, k1, k2⟩ := Hcel.out wr hB
    by_cases hkn : k < n
    · obtain ⟨b, off, hA, hcell⟩ := ints_at (Hh.out.below hB) Hn.out (by omega)
      have hck := hcell k hkn
      subst hA
      obtain ⟨x, hx⟩ : ∃ x, x = hops.getD k 0 := ⟨_, rfl⟩
      rw [← hx] at hck
      have hoa : okAt hops k = (decide (0 ≤ x) && decide (x < 16) && !((hops.take k).contains x)) := by rw [okAt, ← hx, peerB]
      have Hx := Lib.hid hx
      have Hoa := Lib.hid hoa
      clear hx hoa hcell
      by_cases g1 : 0 ≤ x
      rotate_left
      · have e1 : decide (x < 0) = true := decide_eq_true (by omega)
        have Hz := Lib.hid (show okAt hops k = false by rw [Hoa.out, decide_eq_false g1]; rfl)
        go_wp2_with fail
        go_ret
        exact ⟨ret_b (by rw [Hf.out, okAt_false hops k n hkn Hz.out]), below_go hB hB0⟩
      have e1 : decide (x < 0) = false := decide_eq_false (by omega)
      by_cases g2 : x < 16
      rotate_left
      · have e2 : decide (15 < x) = true := decide_eq_true (by omega)
        have Hz := Lib.hid (show okAt hops k = false by rw [Hoa.out, decide_eq_false g2]; simp)
        go_wp2_with fail
        go_ret
        exact ⟨ret_b (by rw [Hf.out, okAt_false hops k n hkn Hz.out]), below_go hB hB0⟩
      have e2 : decide (15 < x) = false := decide_eq_false (by omega)
      have Hoa2 := Lib.hid (show okAt hops k = !((hops.take k).contains x) by rw [Hoa.out, decide_eq_true g1, decide_eq_true g2]; simp)
      clear Hoa
      go_wp2_with fail
      clear k0 k1 k2 hck
      go_loopw [4] (fun i wi => ∃ j : Nat, j ≤ k ∧ i = .int .i64 j ∧ Hid ((hops.take j).contains x = false) ∧ Below W0.heap.size W0 wi) (fun i _ => k - (intOf i).toNat)
      case atStart => exact ⟨0, Nat.zero_le _, rfl, Lib.hid rfl, hB⟩
      case round =>
        clear hB
        obtain ⟨j, hj, rfl, HC, hB⟩ := hrel
        obtain ⟨k0, k1, k2⟩ := Hcel.out _ hB
        by_cases hjk : j < k
        · obtain ⟨b', off', hA', hcell⟩ := ints_at (Hh.out.below hB) Hn.out (by omega)
          injection hA' with hA'
          injection hA' with hA1 hA2
          subst hA1 hA2
          have hckj := hcell j (by omega)
          have hckk := hcell k hkn
          rw [← Hx.out] at hckk
          obtain ⟨y, hy⟩ : ∃ y, y = hops.getD j 0 := ⟨_, rfl⟩
          rw [← hy] at hckj
          have htk : hops.take (j + 1) = hops.take j ++ [y] := by rw [take_succ_getD hops j (by rw [← Hn.out]; omega), hy]
          have Htk := Lib.hid htk
          clear hy htk hcell
          have hjn : j < n := by omega
          by_cases hxy : y = x
          · have hyx : (y == x) = true := by simpa using hxy
            have Hz := Lib.hid (show okAt hops k = false by
              rw [Hoa2.out]
              have : x ∈ hops.take k := by
                have h1 : x ∈ hops.take (j + 1) := by rw [Htk.out, hxy]; simp
                exact List.mem_of_mem_take (by rw [List.take_take, Nat.min_eq_left (by omega)]; exact h1 : x ∈ (hops.take k).take (j + 1))
              simp [this])
            clear hxy
            go_wp2_with fail
            (refine Ord.wp_region_ord [(false, 0), (false, 1), (false, 2), (false, 3), (false, 4), (false, 5), (false, 6), (false, 7), (false, 8), (false, 9), (false, 10)] (fun W => W.cell? ⟨w.heap.size, 0, none⟩ = some (.slice (some ⟨b, off, none⟩) n c) ∧ W.cell? ⟨b, off + j, none⟩ = some (.int .i64 y) ∧ W.cell? ⟨b, off + k, none⟩ = some (.int .i64 x)) (by kernel_rfl) (by kernel_rfl) (by kernel_rfl) (by kernel_rfl) (by exact ⟨k0, hckj, hckk⟩) ?_; simp only [Ord.ordOps, List.filterMap_cons, List.filterMap_nil, List.getElem?_toArray, List.getElem?_cons_succ, List.getElem?_cons_zero, Option.map_some]; repeat (first | (refine Ord.wpOrd_skip ?_ ?_; (focus (go_simp; (try (intro h; cases h)); done)); simp only [Act.put, List.setIfInBounds_toArray, List.set_cons_zero, List.set_cons_succ]) | (refine Ord.wpOrd_take (v := ?_) ?_ ?_ ?_; rotate_left; (focus (go_simp; done)); (focus (intro w' hSw; (try dsimp only at hSw); go_simp; (try with_reducible rfl); done)); simp only [Act.put, List.setIfInBounds_toArray, List.set_cons_zero, List.set_cons_succ])))
            refine Ord.wpOrd_nil ?_
            go_wp2_with fail
            go_ret
            exact ⟨ret_b (by rw [Hf.out, okAt_false hops k n hkn Hz.out]), below_go hB.drew hB0⟩
          · have hyx : (y == x) = false := by simpa using hxy
            have Hz := Lib.hid (show (hops.take (j + 1)).contains x = false by
              rw [Htk.out]
              have := HC.out
              simp at this ⊢
              exact ⟨this, fun h => hxy h.symm⟩)
            clear hxy
            go_wp2_with fail
            (refine Ord.wp_region_ord [(false, 0), (false, 1), (false, 2), (false, 3), (false, 4), (false, 5), (false, 6), (false, 7), (false, 8), (false, 9), (false, 10)] (fun W => W.cell? ⟨w.heap.size, 0, none⟩ = some (.slice (some ⟨b, off, none⟩) n c) ∧ W.cell? ⟨b, off + j, none⟩ = some (.int .i64 y) ∧ W.cell? ⟨b, off + k, none⟩ = some (.int .i64 x)) (by kernel_rfl) (by kernel_rfl) (by kernel_rfl) (by kernel_rfl) (by exact ⟨k0, hckj, hckk⟩) ?_; simp only [Ord.ordOps, List.filterMap_cons, List.filterMap_nil, List.getElem?_toArray, List.getElem?_cons_succ, List.getElem?_cons_zero, Option.map_some]; repeat (first | (refine Ord.wpOrd_skip ?_ ?_; (focus (go_simp; (try (intro h; cases h)); done)); simp only [Act.put, List.setIfInBounds_toArray, List.set_cons_zero, List.set_cons_succ]) | (refine Ord.wpOrd_take (v := ?_) ?_ ?_ ?_; rotate_left; (focus (go_simp; done)); (focus (intro w' hSw; (try dsimp only at hSw); go_simp; (try with_reducible rfl); done)); simp only [Act.put, List.setIfInBounds_toArray, List.set_cons_zero, List.set_cons_succ])))
            refine Ord.wpOrd_nil ?_
            go_wp2_with fail
            exact ⟨⟨j + 1, by omega, by go_num, Hz, hB.drew⟩, by simp only [intOf]; omega⟩
        · obtain rfl : j = k := by omega
          go_wp2_with fail
          exact ⟨⟨j + 1, by omega, by go_num, Lib.hid (by rw [okTo, HO.out, Hoa2.out, HC.out]; rfl), hB⟩, by simp only [intOf]; omega⟩
    · obtain rfl : k = n := by omega
      go_wp2_with fail
      go_ret
      exact ⟨ret_b (by rw [Hf.out, HO.out]), below_go hB hB0⟩
end Go.Proofs.Ytcjabfdjngekfaa.Rel
