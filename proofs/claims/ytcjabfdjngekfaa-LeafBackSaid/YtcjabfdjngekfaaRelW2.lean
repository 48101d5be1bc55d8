/- Walks of layer 26: New, Own. -/
import Derived.Test.YtcjabfdjngekfaaRelW
import Derived.Test.YtcjabfdjngekfaaAppO
set_option linter.unusedVariables false
set_option linter.unusedSimpArgs false
namespace Go.Proofs.Ytcjabfdjngekfaa.Rel
open Go.RowKit Go.Proofs.Ytcjabfdjngekfaa.Wd Go.Proofs.Ytcjabfdjngekfaa.Use Go.Proofs.Ytcjabfdjngekfaa.Lay

set_option maxRecDepth 100000 in
set_option maxHeartbeats 1000000 in
theorem new_any (hops : List Int) (limit : Int) (s : ByteArray) (v : Value) (w : World) (h : Rd w 1 v hops.length (is hops)) (hl : hops.length * 8 ≤ 140737488355328) :
    Calls Try.prog 44 #[.string s, .int .i64 limit, v] w fun e w' => ∃ v', e = .returned (.agg #[v', .int .i64 limit, .string s]) ∧ w'.ownsRow w.heap.size 3 1 v' hops.length (is hops) ∧ Below w.heap.size w w' := by
  obtain ⟨A, c, rfl, hc1, hc2, -⟩ := h.slice_
  obtain ⟨W0, hW0⟩ : ∃ W, W = w.alloc (.cells #[.slice none 0 0, .int .i64 0, .string ⟨#[]⟩] 56) := ⟨_, rfl⟩
  have hB0 : Below w.heap.size w W0 := by rw [hW0]; exact below_one _ _
  have hg0 : W0.heap[w.heap.size]? = some (.cells #[.slice none 0 0, .int .i64 0, .string ⟨#[]⟩] 56 (0, 0)) := by rw [hW0]; exact heap_alloc_new _ _
  obtain ⟨n, hn⟩ : ∃ n, n = hops.length := ⟨_, rfl⟩
  have hcl := clone_any (.slice A n n) hops W0 (by rw [hn]; exact Rd_cap (h.below hB0) (Nat.le_refl _) hc1) hl
  rw [← hn] at hcl hc1 ⊢
  have HW0 := Lib.hid hW0
  have Hcl := Lib.hid hcl
  have Hg0 := Lib.hid hg0
  clear hW0 hcl hn h hl hg0
  go_enter Try.func44, Try.ntmps44
  go_upto_region 1 with fail
  rw [← HW0.out]
  go_wp2_with (go_at_call 111; refine Hcl.out.mono ?_; rintro e w1 ⟨v1, rfl, ho1, hb1⟩; have hB1 := below_go hb1 hB0; have hg1 := blk_below Hg0.out hb1; obtain ⟨k0, k1, k2⟩ := env_cells hg1; have f0 := blk_frozen hg1 0; have f1 := blk_frozen hg1 1; have f2 := blk_frozen hg1 2; have Ho1 := Lib.hid ho1; have hz1 := hb1.size; have hz0 := blk_lt Hg0.out; obtain ⟨A1, c1, rfl, -⟩ := (Rd.of_own ho1).slice_; clear hb1 ho1)
  refine bodyPost_ret (v := .agg #[.slice A1 n c1, .int .i64 limit, .string s]) (results_cell rfl _ _ w.heap.size [.slice A1 n c1, .int .i64 limit, .string s] _ rfl (range_all (set3 hg1)) Try.underlying56 rfl (by kernel_rfl)) rfl ?_
  exact ⟨_, rfl, own_lower (own_set (own_set (own_set Ho1.out hz0 _ _) hz0 _ _) hz0 _ _) hB0.size, below_set (below_set (below_set hB1 (Nat.le_refl _) _ _) (Nat.le_refl _) _ _) (Nat.le_refl _) _ _⟩
set_option maxRecDepth 100000 in
set_option maxHeartbeats 1000000 in
theorem own_any (e : E) (hv : Value) (w : World) (he : EIn w e hv) (hl : e.hops.length * 8 ≤ 140737488355328) :
    Calls Try.prog 35 #[.agg #[hv, .int .i64 e.limit, .string (str e.inner)]] w fun r w' => ∃ v', r = .returned (.agg #[v', .int .i64 e.limit, .string (str e.inner)]) ∧ w'.ownsRow w.heap.size 3 1 v' e.hops.length (is e.hops) ∧ Below w.heap.size w w' := by
  obtain ⟨A, c, rfl, hc1, hc2, -⟩ := he.hops.slice_
  obtain ⟨hh, -, -, -⟩ := he
  obtain ⟨hops, limit, inner⟩ := e
  simp only at hh hc1 hl ⊢
  generalize str inner = s
  obtain ⟨W0, hW0⟩ : ∃ W, W = (w.alloc (.cells #[.slice A hops.length c, .int .i64 limit, .string s] 56)).alloc (.cells #[.slice none 0 0, .int .i64 0, .string ⟨#[]⟩] 57) := ⟨_, rfl⟩
  have hB0 : Below w.heap.size w W0 := by rw [hW0]; exact below_two _ _ _
  have hg0 : W0.heap[w.heap.size]? = some (.cells #[.slice A hops.length c, .int .i64 limit, .string s] 56 (0, 0)) := by rw [hW0]; exact blk_alloc (heap_alloc_new _ _) _
  have hg1 : W0.heap[w.heap.size + 1]? = some (.cells #[.slice none 0 0, .int .i64 0, .string ⟨#[]⟩] 57 (0, 0)) := by rw [hW0]; exact alloc_at _ _ _
  have hr0 := hh.below hB0
  obtain ⟨n, hn⟩ : ∃ n, n = hops.length := ⟨_, rfl⟩
  rw [← hn] at hr0 hc1 hl hW0 hg0 ⊢
  have HW0 := Lib.hid hW0
  have Hg0 := Lib.hid hg0
  have Hg1 := Lib.hid hg1
  have Hr0 := Lib.hid hr0
  have hcel : ∀ W, Below W0.heap.size W0 W → W.cell? ⟨w.heap.size, 0, none⟩ = some (.slice A n c) ∧ W.cell? ⟨w.heap.size, 1, none⟩ = some (.int .i64 limit) ∧ W.cell? ⟨w.heap.size, 2, none⟩ = some (.string s) := fun W hW => env_cells (blk_below Hg0.out hW)
  have Hcel := Lib.hid hcel
  clear hW0 hg0 hr0 hn hh hg1 hcel
  obtain ⟨k0, k1, k2⟩ := Hcel.out W0.drew (Below.refl _ _).drew
  go_enter Try.func35, Try.ntmps35
  go_upto_region 1 with fail
  rw [← HW0.out]
  (refine Ord.wp_region_ord [(false, 1), (false, 2), (false, 4), (false, 5), (false, 6), (false, 7), (true, 0), (true, 3), (false, 8), (true, 9)] (fun W => W.cell? ⟨w.heap.size, 0, none⟩ = some (.slice A n c) ∧ W.cell? ⟨w.heap.size, 1, none⟩ = some (.int .i64 limit) ∧ W.cell? ⟨w.heap.size, 2, none⟩ = some (.string s)) (by kernel_rfl) (by kernel_rfl) (by kernel_rfl) (by kernel_rfl) (by exact ⟨k0, k1, k2⟩) ?_; simp only [Ord.ordOps, List.filterMap_cons, List.filterMap_nil, List.getElem?_toArray, List.getElem?_cons_succ, List.getElem?_cons_zero, Option.map_some]; repeat (first | (refine Ord.wpOrd_skip ?_ ?_; (focus (go_simp; (try (intro h; cases h)); done)); simp only [Act.put, List.setIfInBounds_toArray, List.set_cons_zero, List.set_cons_succ]) | (refine Ord.wpOrd_take (v := ?_) ?_ ?_ ?_; rotate_left; (focus (go_simp; done)); (focus (intro w' hSw; (try dsimp only at hSw); go_simp; (try with_reducible rfl); done)); simp only [Act.put, List.setIfInBounds_toArray, List.set_cons_zero, List.set_cons_succ])))
  (refine Ord.wpOrd_call ?_ (fun K hK => ?_); (focus (go_simp; done)); go_simp)
  have hB1 : Below W0.heap.size W0 (W0.alloc (.cells #[] 3)).drew := (below_one _ _).drew
  (refine hK _ _ (by exact Hcel.out _ hB1) ?_; clear hK K; (try simp only [Act.put, List.setIfInBounds_toArray, List.set_cons_zero, List.set_cons_succ]); repeat (first | (refine Ord.wpOrd_skip ?_ ?_; (focus (go_simp; (try (intro h; cases h)); done)); simp only [Act.put, List.setIfInBounds_toArray, List.set_cons_zero, List.set_cons_succ]) | (refine Ord.wpOrd_take (v := ?_) ?_ ?_ ?_; rotate_left; (focus (go_simp; done)); (focus (intro w' hSw; (try dsimp only at hSw); go_simp; (try with_reducible rfl); done)); simp only [Act.put, List.setIfInBounds_toArray, List.set_cons_zero, List.set_cons_succ])))
  refine Ord.wpOrd_app_row elI64 ?_ (.tmp 3) (.tmp 5) rfl W0.heap.size _ _ 0 n [] (is hops) rfl rfl (is_one _) (own_below (own_empty W0 _ _ _ (Nat.le_refl _)) (Below.refl _ _).drew) (Hr0.out.below hB1) hB1.size (by omega) (fun v1 w1 ho1 hg1 hat1 => ?_)
  · go_simp
  rw [Nat.zero_add, List.nil_append] at ho1
  have hB2 : Below W0.heap.size W0 w1 := hB1.grown hg1 hB1.size (own_base (own_empty W0 W0.heap.size 3 1 (Nat.le_refl _)))
  have hh0 := blk_below Hg0.out hB2
  have hh1 := blk_below Hg1.out hB2
  refine ⟨Hcel.out _ hB2, ?_⟩
  obtain ⟨A1, c1, rfl, -⟩ := (Rd.of_own ho1).slice_
  have Ho1 := Lib.hid ho1
  obtain ⟨j0, j1, j2⟩ := env_cells hh1
  have f0 := blk_frozen hh1 0
  have f1 := blk_frozen hh1 1
  have f2 := blk_frozen hh1 2
  have hne : w.heap.size ≠ w.heap.size + 1 := by omega
  have hbw : w.heap.size + 1 < W0.heap.size := blk_lt Hg1.out
  clear ho1 hg1 hat1 k0 k1 k2
  ((try simp only [Act.put, List.setIfInBounds_toArray, List.set_cons_zero, List.set_cons_succ]); repeat (first | (refine Ord.wpOrd_skip ?_ ?_; (focus (go_simp; (try (intro h; cases h)); done)); simp only [Act.put, List.setIfInBounds_toArray, List.set_cons_zero, List.set_cons_succ]) | (refine Ord.wpOrd_take (v := ?_) ?_ ?_ ?_; rotate_left; (focus (go_simp; done)); (focus (intro w' hSw; (try dsimp only at hSw); go_simp; (try with_reducible rfl); done)); simp only [Act.put, List.setIfInBounds_toArray, List.set_cons_zero, List.set_cons_succ])))
  (refine Ord.wpOrd_call ?_ (fun K hK => ?_); (focus (go_simp; done)); go_simp)
  (refine hK _ _ (by exact env_cells (blk_far (blk_far (blk_far hh0 hne _) hne _) hne _)) ?_; clear hK K; (try simp only [Act.put, List.setIfInBounds_toArray, List.set_cons_zero, List.set_cons_succ]); repeat (first | (refine Ord.wpOrd_skip ?_ ?_; (focus (go_simp; (try (intro h; cases h)); done)); simp only [Act.put, List.setIfInBounds_toArray, List.set_cons_zero, List.set_cons_succ]) | (refine Ord.wpOrd_take (v := ?_) ?_ ?_ ?_; rotate_left; (focus (go_simp; done)); (focus (intro w' hSw; (try dsimp only at hSw); go_simp; (try with_reducible rfl); done)); simp only [Act.put, List.setIfInBounds_toArray, List.set_cons_zero, List.set_cons_succ])))
  refine Ord.wpOrd_nil ?_
  go_wp2_with fail
  refine bodyPost_ret (v := .agg #[.slice A1 n c1, .int .i64 limit, .string s]) (results_cell rfl _ _ (w.heap.size + 1) [.slice A1 n c1, .int .i64 limit, .string s] _ rfl (range_all (set3 hh1)) Try.underlying57 rfl (by kernel_rfl)) rfl ?_
  have hB3 : Below w.heap.size w w1 := below_go hB2 hB0
  exact ⟨_, rfl, own_lower (own_set (own_set (own_set Ho1.out hbw _ _) hbw _ _) hbw _ _) (by omega), below_set (below_set (below_set hB3 (by omega) _ _) (by omega) _ _) (by omega) _ _⟩
end Go.Proofs.Ytcjabfdjngekfaa.Rel
