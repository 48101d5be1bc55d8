/- The reference of updates, walked: Right. -/
import Derived.Test.YtcjabfdjngekfaaPRef14
import Derived.Test.YtcjabfdjngekfaaRef02O
set_option linter.unusedVariables false
set_option linter.unusedSimpArgs false
namespace Go.Proofs.Ytcjabfdjngekfaa.Upd
open Go.RowKit Go.Proofs.Ytcjabfdjngekfaa.Wd Go.Proofs.Ytcjabfdjngekfaa.Use Go.Proofs.Ytcjabfdjngekfaa.Lay Go.Proofs.Ytcjabfdjngekfaa.Ids

set_option maxRecDepth 100000 in
set_option maxHeartbeats 16000000 in
theorem rRight_any (u : U) (pv : Value) (w : World) (hu : UIn w u pv) (hn : u.ps.length ≤ 100000) : Calls Try.prog 68 #[.agg #[.int .i64 u.au, .int .u64 (u.ct : Int), pv, .int .i64 u.kd, .string (str u.ky), .string (str u.vl)]] w fun r w' => r = .returned (.bool u.right) ∧ Below w.heap.size w w' := by
  obtain ⟨A, c, rfl, hc1, hc2, -⟩ := hu.ps.slice_
  unfold maxLen at hc2
  obtain ⟨hps, h32, ⟨a1, a2⟩, ⟨k1, k2⟩, hct, hky, hvl⟩ := hu
  obtain ⟨au, ct, ps, kd, ky, vl⟩ := u
  simp only at hps h32 a1 a2 k1 k2 hct hky hvl hc1 hn ⊢
  have hr : U.right ⟨au, ct, ps, kd, ky, vl⟩ = (decide (0 ≤ au ∧ au < 16) && decide (ct ≠ 0) && decide (ps.length ≤ 8) && up ps && decide (0 ≤ kd ∧ kd ≤ 2) && decide (ky.length ≤ 64) && decide (vl.length ≤ 64) && (decide (kd = 2) || decide (vl = []))) := rfl
  generalize U.right ⟨au, ct, ps, kd, ky, vl⟩ = r at hr ⊢
  have hof := fun (W : World) (h : Below w.heap.size w W) => Ids.rOf_any ps h32 hn (.slice A ps.length c) W (hps.below h)
  have hsa := fun (W : World) (v2 : Value) (h : Below w.heap.size w W) (h2 : Rd W 32 v2 (rof ps).length (ix (rof ps))) => Ids.rSame_any ps (rof ps) h32 (rof_w _ _ W32.nil h32) (.slice A ps.length c) v2 W (hps.below h) h2
  simp only [same_rof] at hsa
  generalize up ps = U1 at hr hsa
  generalize rof ps = rp at hof hsa
  obtain ⟨n, hn'⟩ : ∃ n, n = ps.length := ⟨_, rfl⟩
  rw [← hn'] at hr hof hsa hc1 ⊢
  have Hr := Lib.hid hr
  have Hof := Lib.hid hof
  have Hsa := Lib.hid hsa
  clear hr hof hsa hps h32 hn' hn
  obtain ⟨wb, hwb⟩ : ∃ wb, wb = w.alloc (.cells #[.int .i64 au, .int .u64 (ct : Int), .slice A n c, .int .i64 kd, .string (str ky), .string (str vl)] 105) := ⟨_, rfl⟩
  have Hcel := Lib.hid (show ∀ W, Below wb.heap.size wb W → W.cell? ⟨w.heap.size, 0, none⟩ = some (.int .i64 au) ∧ W.cell? ⟨w.heap.size, 1, none⟩ = some (.int .u64 (ct : Int)) ∧ W.cell? ⟨w.heap.size, 2, none⟩ = some (.slice A n c) ∧ W.cell? ⟨w.heap.size, 3, none⟩ = some (.int .i64 kd) ∧ W.cell? ⟨w.heap.size, 4, none⟩ = some (.string (str ky)) ∧ W.cell? ⟨w.heap.size, 5, none⟩ = some (.string (str vl)) from by
    intro W h; rw [hwb] at h; exact ucells (blk_below (heap_alloc_new w _) h))
  have hbw : Below w.heap.size w wb := by rw [hwb]; exact below_one _ _
  have Hwb := Lib.hid hwb
  clear hwb
  go_enter Try.func68, Try.ntmps68
  go_upto_region 1 with fail
  rw [show w.alloc (.cells #[.int .i64 au, .int .u64 (ct : Int), .slice A n c, .int .i64 kd, .string (str ky), .string (str vl)] 105) = wb from Hwb.out.symm]
  by_cases h1 : 0 ≤ au
  rotate_left
  · have d1a : decide (0 ≤ au) = false := decide_eq_false (by omega)
    have Hf := Lib.hid (show r = false by rw [Hr.out, decide_eq_false (show ¬ (0 ≤ au ∧ au < 16) by omega)]; rfl)
    (refine Ord.wp_region_ord [(false, 0), (false, 1), (false, 2), (false, 3), (false, 4), (false, 5), (false, 6), (false, 7), (false, 8), (false, 9), (false, 10), (false, 11), (false, 12), (false, 13), (false, 14), (false, 15), (false, 16), (false, 17), (false, 18), (false, 19), (false, 20), (false, 21), (false, 22), (false, 23), (true, 24), (true, 25), (false, 26), (false, 27), (false, 28), (false, 29), (false, 30), (false, 31), (false, 32), (false, 33), (false, 34), (false, 35), (false, 36), (false, 37), (false, 38), (false, 39), (false, 40), (false, 41), (false, 42), (false, 43), (false, 44), (false, 45), (false, 46), (false, 47), (false, 48), (false, 49), (false, 50), (false, 51), (false, 52), (false, 53), (false, 54), (false, 55), (false, 56), (false, 57), (false, 58), (false, 59)] (fun W => W.cell? ⟨w.heap.size, 0, none⟩ = some (.int .i64 au) ∧ W.cell? ⟨w.heap.size, 1, none⟩ = some (.int .u64 (ct : Int)) ∧ W.cell? ⟨w.heap.size, 2, none⟩ = some (.slice A n c) ∧ W.cell? ⟨w.heap.size, 3, none⟩ = some (.int .i64 kd) ∧ W.cell? ⟨w.heap.size, 4, none⟩ = some (.string (str ky)) ∧ W.cell? ⟨w.heap.size, 5, none⟩ = some (.string (str vl))) (by kernel_rfl) (by kernel_rfl) (by kernel_rfl) (by kernel_rfl) (by exact Hcel.out _ (Below.refl _ _).drew) ?_; simp only [Ord.ordOps, List.filterMap_cons, List.filterMap_nil, List.getElem?_toArray, List.getElem?_cons_succ, List.getElem?_cons_zero, Option.map_some]; repeat (first | (refine Ord.wpOrd_skip ?_ ?_; (focus (go_simp; (try (intro h; cases h)); done)); simp only [Act.put, List.setIfInBounds_toArray, List.set_cons_zero, List.set_cons_succ]) | (refine Ord.wpOrd_take (v := ?_) ?_ ?_ ?_; rotate_left; (focus (go_simp; done)); (focus (intro w' hSw; (try dsimp only at hSw); go_simp; (try with_reducible rfl); done)); simp only [Act.put, List.setIfInBounds_toArray, List.set_cons_zero, List.set_cons_succ])))
    refine Ord.wpOrd_nil ?_
    go_wp2_with fail
    go_ret
    exact ⟨ret_b Hf.out.symm, hbw.drew⟩
  have d1a : decide (0 ≤ au) = true := decide_eq_true (by omega)
  by_cases h2 : au < 16
  rotate_left
  · have d2a : decide (au < 16) = false := decide_eq_false (by omega)
    have Hf := Lib.hid (show r = false by rw [Hr.out, decide_eq_false (show ¬ (0 ≤ au ∧ au < 16) by omega)]; rfl)
    (refine Ord.wp_region_ord [(false, 0), (false, 1), (false, 2), (false, 3), (false, 4), (false, 5), (false, 6), (false, 7), (false, 8), (false, 9), (false, 10), (false, 11), (false, 12), (false, 13), (false, 14), (false, 15), (false, 16), (false, 17), (false, 18), (false, 19), (false, 20), (false, 21), (false, 22), (false, 23), (true, 24), (true, 25), (false, 26), (false, 27), (false, 28), (false, 29), (false, 30), (false, 31), (false, 32), (false, 33), (false, 34), (false, 35), (false, 36), (false, 37), (false, 38), (false, 39), (false, 40), (false, 41), (false, 42), (false, 43), (false, 44), (false, 45), (false, 46), (false, 47), (false, 48), (false, 49), (false, 50), (false, 51), (false, 52), (false, 53), (false, 54), (false, 55), (false, 56), (false, 57), (false, 58), (false, 59)] (fun W => W.cell? ⟨w.heap.size, 0, none⟩ = some (.int .i64 au) ∧ W.cell? ⟨w.heap.size, 1, none⟩ = some (.int .u64 (ct : Int)) ∧ W.cell? ⟨w.heap.size, 2, none⟩ = some (.slice A n c) ∧ W.cell? ⟨w.heap.size, 3, none⟩ = some (.int .i64 kd) ∧ W.cell? ⟨w.heap.size, 4, none⟩ = some (.string (str ky)) ∧ W.cell? ⟨w.heap.size, 5, none⟩ = some (.string (str vl))) (by kernel_rfl) (by kernel_rfl) (by kernel_rfl) (by kernel_rfl) (by exact Hcel.out _ (Below.refl _ _).drew) ?_; simp only [Ord.ordOps, List.filterMap_cons, List.filterMap_nil, List.getElem?_toArray, List.getElem?_cons_succ, List.getElem?_cons_zero, Option.map_some]; repeat (first | (refine Ord.wpOrd_skip ?_ ?_; (focus (go_simp; (try (intro h; cases h)); done)); simp only [Act.put, List.setIfInBounds_toArray, List.set_cons_zero, List.set_cons_succ]) | (refine Ord.wpOrd_take (v := ?_) ?_ ?_ ?_; rotate_left; (focus (go_simp; done)); (focus (intro w' hSw; (try dsimp only at hSw); go_simp; (try with_reducible rfl); done)); simp only [Act.put, List.setIfInBounds_toArray, List.set_cons_zero, List.set_cons_succ])))
    refine Ord.wpOrd_nil ?_
    go_wp2_with fail
    go_ret
    exact ⟨ret_b Hf.out.symm, hbw.drew⟩
  have d2a : decide (au < 16) = true := decide_eq_true (by omega)
  by_cases h3 : 1 ≤ ct
  rotate_left
  · have d3a : decide ((1 : Int) ≤ (ct : Int)) = false := decide_eq_false (by omega)
    have d3b : decide (1 ≤ ct) = false := decide_eq_false (by omega)
    have Hf := Lib.hid (show r = false by rw [Hr.out, decide_eq_false (show ¬ ct ≠ 0 by omega)]; simp)
    (refine Ord.wp_region_ord [(false, 0), (false, 1), (false, 2), (false, 3), (false, 4), (false, 5), (false, 6), (false, 7), (false, 8), (false, 9), (false, 10), (false, 11), (false, 12), (false, 13), (false, 14), (false, 15), (false, 16), (false, 17), (false, 18), (false, 19), (false, 20), (false, 21), (false, 22), (false, 23), (true, 24), (true, 25), (false, 26), (false, 27), (false, 28), (false, 29), (false, 30), (false, 31), (false, 32), (false, 33), (false, 34), (false, 35), (false, 36), (false, 37), (false, 38), (false, 39), (false, 40), (false, 41), (false, 42), (false, 43), (false, 44), (false, 45), (false, 46), (false, 47), (false, 48), (false, 49), (false, 50), (false, 51), (false, 52), (false, 53), (false, 54), (false, 55), (false, 56), (false, 57), (false, 58), (false, 59)] (fun W => W.cell? ⟨w.heap.size, 0, none⟩ = some (.int .i64 au) ∧ W.cell? ⟨w.heap.size, 1, none⟩ = some (.int .u64 (ct : Int)) ∧ W.cell? ⟨w.heap.size, 2, none⟩ = some (.slice A n c) ∧ W.cell? ⟨w.heap.size, 3, none⟩ = some (.int .i64 kd) ∧ W.cell? ⟨w.heap.size, 4, none⟩ = some (.string (str ky)) ∧ W.cell? ⟨w.heap.size, 5, none⟩ = some (.string (str vl))) (by kernel_rfl) (by kernel_rfl) (by kernel_rfl) (by kernel_rfl) (by exact Hcel.out _ (Below.refl _ _).drew) ?_; simp only [Ord.ordOps, List.filterMap_cons, List.filterMap_nil, List.getElem?_toArray, List.getElem?_cons_succ, List.getElem?_cons_zero, Option.map_some]; repeat (first | (refine Ord.wpOrd_skip ?_ ?_; (focus (go_simp; (try (intro h; cases h)); done)); simp only [Act.put, List.setIfInBounds_toArray, List.set_cons_zero, List.set_cons_succ]) | (refine Ord.wpOrd_take (v := ?_) ?_ ?_ ?_; rotate_left; (focus (go_simp; done)); (focus (intro w' hSw; (try dsimp only at hSw); go_simp; (try with_reducible rfl); done)); simp only [Act.put, List.setIfInBounds_toArray, List.set_cons_zero, List.set_cons_succ])))
    refine Ord.wpOrd_nil ?_
    go_wp2_with fail
    go_ret
    exact ⟨ret_b Hf.out.symm, hbw.drew⟩
  have d3a : decide ((1 : Int) ≤ (ct : Int)) = true := decide_eq_true (by omega)
  have d3b : decide (1 ≤ ct) = true := decide_eq_true (by omega)
  by_cases h4 : n ≤ 8
  rotate_left
  · have d4a : decide ((n : Int) ≤ 8) = false := decide_eq_false (by omega)
    have d4b : decide (n ≤ 8) = false := decide_eq_false (by omega)
    have Hf := Lib.hid (show r = false by rw [Hr.out, decide_eq_false h4]; simp)
    (refine Ord.wp_region_ord [(false, 0), (false, 1), (false, 2), (false, 3), (false, 4), (false, 5), (false, 6), (false, 7), (false, 8), (false, 9), (false, 10), (false, 11), (false, 12), (false, 13), (false, 14), (false, 15), (false, 16), (false, 17), (false, 18), (false, 19), (false, 20), (false, 21), (false, 22), (false, 23), (true, 24), (true, 25), (false, 26), (false, 27), (false, 28), (false, 29), (false, 30), (false, 31), (false, 32), (false, 33), (false, 34), (false, 35), (false, 36), (false, 37), (false, 38), (false, 39), (false, 40), (false, 41), (false, 42), (false, 43), (false, 44), (false, 45), (false, 46), (false, 47), (false, 48), (false, 49), (false, 50), (false, 51), (false, 52), (false, 53), (false, 54), (false, 55), (false, 56), (false, 57), (false, 58), (false, 59)] (fun W => W.cell? ⟨w.heap.size, 0, none⟩ = some (.int .i64 au) ∧ W.cell? ⟨w.heap.size, 1, none⟩ = some (.int .u64 (ct : Int)) ∧ W.cell? ⟨w.heap.size, 2, none⟩ = some (.slice A n c) ∧ W.cell? ⟨w.heap.size, 3, none⟩ = some (.int .i64 kd) ∧ W.cell? ⟨w.heap.size, 4, none⟩ = some (.string (str ky)) ∧ W.cell? ⟨w.heap.size, 5, none⟩ = some (.string (str vl))) (by kernel_rfl) (by kernel_rfl) (by kernel_rfl) (by kernel_rfl) (by exact Hcel.out _ (Below.refl _ _).drew) ?_; simp only [Ord.ordOps, List.filterMap_cons, List.filterMap_nil, List.getElem?_toArray, List.getElem?_cons_succ, List.getElem?_cons_zero, Option.map_some]; repeat (first | (refine Ord.wpOrd_skip ?_ ?_; (focus (go_simp; (try (intro h; cases h)); done)); simp only [Act.put, List.setIfInBounds_toArray, List.set_cons_zero, List.set_cons_succ]) | (refine Ord.wpOrd_take (v := ?_) ?_ ?_ ?_; rotate_left; (focus (go_simp; done)); (focus (intro w' hSw; (try dsimp only at hSw); go_simp; (try with_reducible rfl); done)); simp only [Act.put, List.setIfInBounds_toArray, List.set_cons_zero, List.set_cons_succ])))
    refine Ord.wpOrd_nil ?_
    go_wp2_with fail
    go_ret
    exact ⟨ret_b Hf.out.symm, hbw.drew⟩
  have d4a : decide ((n : Int) ≤ 8) = true := decide_eq_true (by omega)
  have d4b : decide (n ≤ 8) = true := decide_eq_true (by omega)
  by_cases h5 : U1 = true
  rotate_left
  · obtain rfl : U1 = false := by simpa using h5
    have Hf := Lib.hid (show r = false by rw [Hr.out]; simp)
    (refine Ord.wp_region_ord [(false, 0), (false, 1), (false, 2), (false, 3), (false, 4), (false, 5), (false, 6), (false, 7), (false, 8), (false, 9), (false, 10), (false, 11), (false, 12), (false, 13), (false, 14), (false, 15), (false, 16), (false, 17), (false, 18), (false, 19), (false, 20), (false, 21), (false, 22), (false, 23), (true, 24), (true, 25), (false, 26), (false, 27), (false, 28), (false, 29), (false, 30), (false, 31), (false, 32), (false, 33), (false, 34), (false, 35), (false, 36), (false, 37), (false, 38), (false, 39), (false, 40), (false, 41), (false, 42), (false, 43), (false, 44), (false, 45), (false, 46), (false, 47), (false, 48), (false, 49), (false, 50), (false, 51), (false, 52), (false, 53), (false, 54), (false, 55), (false, 56), (false, 57), (false, 58), (false, 59)] (fun W => W.cell? ⟨w.heap.size, 0, none⟩ = some (.int .i64 au) ∧ W.cell? ⟨w.heap.size, 1, none⟩ = some (.int .u64 (ct : Int)) ∧ W.cell? ⟨w.heap.size, 2, none⟩ = some (.slice A n c) ∧ W.cell? ⟨w.heap.size, 3, none⟩ = some (.int .i64 kd) ∧ W.cell? ⟨w.heap.size, 4, none⟩ = some (.string (str ky)) ∧ W.cell? ⟨w.heap.size, 5, none⟩ = some (.string (str vl))) (by kernel_rfl) (by kernel_rfl) (by kernel_rfl) (by kernel_rfl) (by exact Hcel.out _ (Below.refl _ _).drew) ?_; simp only [Ord.ordOps, List.filterMap_cons, List.filterMap_nil, List.getElem?_toArray, List.getElem?_cons_succ, List.getElem?_cons_zero, Option.map_some]; repeat (first | (refine Ord.wpOrd_skip ?_ ?_; (focus (go_simp; (try (intro h; cases h)); done)); simp only [Act.put, List.setIfInBounds_toArray, List.set_cons_zero, List.set_cons_succ]) | (refine Ord.wpOrd_take (v := ?_) ?_ ?_ ?_; rotate_left; (focus (go_simp; done)); (focus (intro w' hSw; (try dsimp only at hSw); go_simp; (try with_reducible rfl); done)); simp only [Act.put, List.setIfInBounds_toArray, List.set_cons_zero, List.set_cons_succ])))
    (refine Ord.wpOrd_call ?_ (fun K hK => ?_); (focus (go_simp; done)); go_simp)
    go_at_call 128
    refine (Hof.out wb.drew hbw.drew).mono ?_
    rintro e w2 ⟨v2, rfl, hr2, hb2⟩
    have hb2' := below_go hb2 (Below.refl wb.heap.size wb).drew
    have Hr2 := Lib.hid hr2
    clear hr2
    (refine hK _ _ (by exact Hcel.out _ hb2') ?_; clear hK K; (try simp only [Act.put, List.setIfInBounds_toArray, List.set_cons_zero, List.set_cons_succ]); repeat (first | (refine Ord.wpOrd_skip ?_ ?_; (focus (go_simp; (try (intro h; cases h)); done)); simp only [Act.put, List.setIfInBounds_toArray, List.set_cons_zero, List.set_cons_succ]) | (refine Ord.wpOrd_take (v := ?_) ?_ ?_ ?_; rotate_left; (focus (go_simp; done)); (focus (intro w' hSw; (try dsimp only at hSw); go_simp; (try with_reducible rfl); done)); simp only [Act.put, List.setIfInBounds_toArray, List.set_cons_zero, List.set_cons_succ])))
    (refine Ord.wpOrd_call ?_ (fun K hK => ?_); (focus (go_simp; done)); go_simp)
    go_at_call 127
    refine (Hsa.out w2 v2 (below_go hb2' hbw) Hr2.out).mono ?_
    rintro e w3 ⟨rfl, hb3⟩
    have hb3' := below_go hb3 hb2'
    (refine hK _ _ (by exact Hcel.out _ hb3') ?_; clear hK K; (try simp only [Act.put, List.setIfInBounds_toArray, List.set_cons_zero, List.set_cons_succ]); repeat (first | (refine Ord.wpOrd_skip ?_ ?_; (focus (go_simp; (try (intro h; cases h)); done)); simp only [Act.put, List.setIfInBounds_toArray, List.set_cons_zero, List.set_cons_succ]) | (refine Ord.wpOrd_take (v := ?_) ?_ ?_ ?_; rotate_left; (focus (go_simp; done)); (focus (intro w' hSw; (try dsimp only at hSw); go_simp; (try with_reducible rfl); done)); simp only [Act.put, List.setIfInBounds_toArray, List.set_cons_zero, List.set_cons_succ])))
    refine Ord.wpOrd_nil ?_
    go_wp2_with fail
    go_ret
    exact ⟨ret_b Hf.out.symm, below_go hb3' hbw⟩
  subst h5
  by_cases h6 : 0 ≤ kd
  rotate_left
  · have d6a : decide (0 ≤ kd) = false := decide_eq_false (by omega)
    have Hf := Lib.hid (show r = false by rw [Hr.out, decide_eq_false (show ¬ (0 ≤ kd ∧ kd ≤ 2) by omega)]; simp)
    (refine Ord.wp_region_ord [(false, 0), (false, 1), (false, 2), (false, 3), (false, 4), (false, 5), (false, 6), (false, 7), (false, 8), (false, 9), (false, 10), (false, 11), (false, 12), (false, 13), (false, 14), (false, 15), (false, 16), (false, 17), (false, 18), (false, 19), (false, 20), (false, 21), (false, 22), (false, 23), (true, 24), (true, 25), (false, 26), (false, 27), (false, 28), (false, 29), (false, 30), (false, 31), (false, 32), (false, 33), (false, 34), (false, 35), (false, 36), (false, 37), (false, 38), (false, 39), (false, 40), (false, 41), (false, 42), (false, 43), (false, 44), (false, 45), (false, 46), (false, 47), (false, 48), (false, 49), (false, 50), (false, 51), (false, 52), (false, 53), (false, 54), (false, 55), (false, 56), (false, 57), (false, 58), (false, 59)] (fun W => W.cell? ⟨w.heap.size, 0, none⟩ = some (.int .i64 au) ∧ W.cell? ⟨w.heap.size, 1, none⟩ = some (.int .u64 (ct : Int)) ∧ W.cell? ⟨w.heap.size, 2, none⟩ = some (.slice A n c) ∧ W.cell? ⟨w.heap.size, 3, none⟩ = some (.int .i64 kd) ∧ W.cell? ⟨w.heap.size, 4, none⟩ = some (.string (str ky)) ∧ W.cell? ⟨w.heap.size, 5, none⟩ = some (.string (str vl))) (by kernel_rfl) (by kernel_rfl) (by kernel_rfl) (by kernel_rfl) (by exact Hcel.out _ (Below.refl _ _).drew) ?_; simp only [Ord.ordOps, List.filterMap_cons, List.filterMap_nil, List.getElem?_toArray, List.getElem?_cons_succ, List.getElem?_cons_zero, Option.map_some]; repeat (first | (refine Ord.wpOrd_skip ?_ ?_; (focus (go_simp; (try (intro h; cases h)); done)); simp only [Act.put, List.setIfInBounds_toArray, List.set_cons_zero, List.set_cons_succ]) | (refine Ord.wpOrd_take (v := ?_) ?_ ?_ ?_; rotate_left; (focus (go_simp; done)); (focus (intro w' hSw; (try dsimp only at hSw); go_simp; (try with_reducible rfl); done)); simp only [Act.put, List.setIfInBounds_toArray, List.set_cons_zero, List.set_cons_succ])))
    (refine Ord.wpOrd_call ?_ (fun K hK => ?_); (focus (go_simp; done)); go_simp)
    go_at_call 128
    refine (Hof.out wb.drew hbw.drew).mono ?_
    rintro e w2 ⟨v2, rfl, hr2, hb2⟩
    have hb2' := below_go hb2 (Below.refl wb.heap.size wb).drew
    have Hr2 := Lib.hid hr2
    clear hr2
    (refine hK _ _ (by exact Hcel.out _ hb2') ?_; clear hK K; (try simp only [Act.put, List.setIfInBounds_toArray, List.set_cons_zero, List.set_cons_succ]); repeat (first | (refine Ord.wpOrd_skip ?_ ?_; (focus (go_simp; (try (intro h; cases h)); done)); simp only [Act.put, List.setIfInBounds_toArray, List.set_cons_zero, List.set_cons_succ]) | (refine Ord.wpOrd_take (v := ?_) ?_ ?_ ?_; rotate_left; (focus (go_simp; done)); (focus (intro w' hSw; (try dsimp only at hSw); go_simp; (try with_reducible rfl); done)); simp only [Act.put, List.setIfInBounds_toArray, List.set_cons_zero, List.set_cons_succ])))
    (refine Ord.wpOrd_call ?_ (fun K hK => ?_); (focus (go_simp; done)); go_simp)
    go_at_call 127
    refine (Hsa.out w2 v2 (below_go hb2' hbw) Hr2.out).mono ?_
    rintro e w3 ⟨rfl, hb3⟩
    have hb3' := below_go hb3 hb2'
    (refine hK _ _ (by exact Hcel.out _ hb3') ?_; clear hK K; (try simp only [Act.put, List.setIfInBounds_toArray, List.set_cons_zero, List.set_cons_succ]); repeat (first | (refine Ord.wpOrd_skip ?_ ?_; (focus (go_simp; (try (intro h; cases h)); done)); simp only [Act.put, List.setIfInBounds_toArray, List.set_cons_zero, List.set_cons_succ]) | (refine Ord.wpOrd_take (v := ?_) ?_ ?_ ?_; rotate_left; (focus (go_simp; done)); (focus (intro w' hSw; (try dsimp only at hSw); go_simp; (try with_reducible rfl); done)); simp only [Act.put, List.setIfInBounds_toArray, List.set_cons_zero, List.set_cons_succ])))
    refine Ord.wpOrd_nil ?_
    go_wp2_with fail
    go_ret
    exact ⟨ret_b Hf.out.symm, below_go hb3' hbw⟩
  have d6a : decide (0 ≤ kd) = true := decide_eq_true (by omega)
  by_cases h7 : kd ≤ 2
  rotate_left
  · have d7a : decide (kd ≤ 2) = false := decide_eq_false (by omega)
    have Hf := Lib.hid (show r = false by rw [Hr.out, decide_eq_false (show ¬ (0 ≤ kd ∧ kd ≤ 2) by omega)]; simp)
    (refine Ord.wp_region_ord [(false, 0), (false, 1), (false, 2), (false, 3), (false, 4), (false, 5), (false, 6), (false, 7), (false, 8), (false, 9), (false, 10), (false, 11), (false, 12), (false, 13), (false, 14), (false, 15), (false, 16), (false, 17), (false, 18), (false, 19), (false, 20), (false, 21), (false, 22), (false, 23), (true, 24), (true, 25), (false, 26), (false, 27), (false, 28), (false, 29), (false, 30), (false, 31), (false, 32), (false, 33), (false, 34), (false, 35), (false, 36), (false, 37), (false, 38), (false, 39), (false, 40), (false, 41), (false, 42), (false, 43), (false, 44), (false, 45), (false, 46), (false, 47), (false, 48), (false, 49), (false, 50), (false, 51), (false, 52), (false, 53), (false, 54), (false, 55), (false, 56), (false, 57), (false, 58), (false, 59)] (fun W => W.cell? ⟨w.heap.size, 0, none⟩ = some (.int .i64 au) ∧ W.cell? ⟨w.heap.size, 1, none⟩ = some (.int .u64 (ct : Int)) ∧ W.cell? ⟨w.heap.size, 2, none⟩ = some (.slice A n c) ∧ W.cell? ⟨w.heap.size, 3, none⟩ = some (.int .i64 kd) ∧ W.cell? ⟨w.heap.size, 4, none⟩ = some (.string (str ky)) ∧ W.cell? ⟨w.heap.size, 5, none⟩ = some (.string (str vl))) (by kernel_rfl) (by kernel_rfl) (by kernel_rfl) (by kernel_rfl) (by exact Hcel.out _ (Below.refl _ _).drew) ?_; simp only [Ord.ordOps, List.filterMap_cons, List.filterMap_nil, List.getElem?_toArray, List.getElem?_cons_succ, List.getElem?_cons_zero, Option.map_some]; repeat (first | (refine Ord.wpOrd_skip ?_ ?_; (focus (go_simp; (try (intro h; cases h)); done)); simp only [Act.put, List.setIfInBounds_toArray, List.set_cons_zero, List.set_cons_succ]) | (refine Ord.wpOrd_take (v := ?_) ?_ ?_ ?_; rotate_left; (focus (go_simp; done)); (focus (intro w' hSw; (try dsimp only at hSw); go_simp; (try with_reducible rfl); done)); simp only [Act.put, List.setIfInBounds_toArray, List.set_cons_zero, List.set_cons_succ])))
    (refine Ord.wpOrd_call ?_ (fun K hK => ?_); (focus (go_simp; done)); go_simp)
    go_at_call 128
    refine (Hof.out wb.drew hbw.drew).mono ?_
    rintro e w2 ⟨v2, rfl, hr2, hb2⟩
    have hb2' := below_go hb2 (Below.refl wb.heap.size wb).drew
    have Hr2 := Lib.hid hr2
    clear hr2
    (refine hK _ _ (by exact Hcel.out _ hb2') ?_; clear hK K; (try simp only [Act.put, List.setIfInBounds_toArray, List.set_cons_zero, List.set_cons_succ]); repeat (first | (refine Ord.wpOrd_skip ?_ ?_; (focus (go_simp; (try (intro h; cases h)); done)); simp only [Act.put, List.setIfInBounds_toArray, List.set_cons_zero, List.set_cons_succ]) | (refine Ord.wpOrd_take (v := ?_) ?_ ?_ ?_; rotate_left; (focus (go_simp; done)); (focus (intro w' hSw; (try dsimp only at hSw); go_simp; (try with_reducible rfl); done)); simp only [Act.put, List.setIfInBounds_toArray, List.set_cons_zero, List.set_cons_succ])))
    (refine Ord.wpOrd_call ?_ (fun K hK => ?_); (focus (go_simp; done)); go_simp)
    go_at_call 127
    refine (Hsa.out w2 v2 (below_go hb2' hbw) Hr2.out).mono ?_
    rintro e w3 ⟨rfl, hb3⟩
    have hb3' := below_go hb3 hb2'
    (refine hK _ _ (by exact Hcel.out _ hb3') ?_; clear hK K; (try simp only [Act.put, List.setIfInBounds_toArray, List.set_cons_zero, List.set_cons_succ]); repeat (first | (refine Ord.wpOrd_skip ?_ ?_; (focus (go_simp; (try (intro h; cases h)); done)); simp only [Act.put, List.setIfInBounds_toArray, List.set_cons_zero, List.set_cons_succ]) | (refine Ord.wpOrd_take (v := ?_) ?_ ?_ ?_; rotate_left; (focus (go_simp; done)); (focus (intro w' hSw; (try dsimp only at hSw); go_simp; (try with_reducible rfl); done)); simp only [Act.put, List.setIfInBounds_toArray, List.set_cons_zero, List.set_cons_succ])))
    refine Ord.wpOrd_nil ?_
    go_wp2_with fail
    go_ret
    exact ⟨ret_b Hf.out.symm, below_go hb3' hbw⟩
  have d7a : decide (kd ≤ 2) = true := decide_eq_true (by omega)
  by_cases h8 : ky.length ≤ 64
  rotate_left
  · have d8a : decide ((ky.length : Int) ≤ 64) = false := decide_eq_false (by omega)
    have d8b : decide (ky.length ≤ 64) = false := decide_eq_false (by omega)
    have Hf := Lib.hid (show r = false by rw [Hr.out, decide_eq_false h8]; simp)
    (refine Ord.wp_region_ord [(false, 0), (false, 1), (false, 2), (false, 3), (false, 4), (false, 5), (false, 6), (false, 7), (false, 8), (false, 9), (false, 10), (false, 11), (false, 12), (false, 13), (false, 14), (false, 15), (false, 16), (false, 17), (false, 18), (false, 19), (false, 20), (false, 21), (false, 22), (false, 23), (true, 24), (true, 25), (false, 26), (false, 27), (false, 28), (false, 29), (false, 30), (false, 31), (false, 32), (false, 33), (false, 34), (false, 35), (false, 36), (false, 37), (false, 38), (false, 39), (false, 40), (false, 41), (false, 42), (false, 43), (false, 44), (false, 45), (false, 46), (false, 47), (false, 48), (false, 49), (false, 50), (false, 51), (false, 52), (false, 53), (false, 54), (false, 55), (false, 56), (false, 57), (false, 58), (false, 59)] (fun W => W.cell? ⟨w.heap.size, 0, none⟩ = some (.int .i64 au) ∧ W.cell? ⟨w.heap.size, 1, none⟩ = some (.int .u64 (ct : Int)) ∧ W.cell? ⟨w.heap.size, 2, none⟩ = some (.slice A n c) ∧ W.cell? ⟨w.heap.size, 3, none⟩ = some (.int .i64 kd) ∧ W.cell? ⟨w.heap.size, 4, none⟩ = some (.string (str ky)) ∧ W.cell? ⟨w.heap.size, 5, none⟩ = some (.string (str vl))) (by kernel_rfl) (by kernel_rfl) (by kernel_rfl) (by kernel_rfl) (by exact Hcel.out _ (Below.refl _ _).drew) ?_; simp only [Ord.ordOps, List.filterMap_cons, List.filterMap_nil, List.getElem?_toArray, List.getElem?_cons_succ, List.getElem?_cons_zero, Option.map_some]; repeat (first | (refine Ord.wpOrd_skip ?_ ?_; (focus (go_simp; (try (intro h; cases h)); done)); simp only [Act.put, List.setIfInBounds_toArray, List.set_cons_zero, List.set_cons_succ]) | (refine Ord.wpOrd_take (v := ?_) ?_ ?_ ?_; rotate_left; (focus (go_simp; done)); (focus (intro w' hSw; (try dsimp only at hSw); go_simp; (try with_reducible rfl); done)); simp only [Act.put, List.setIfInBounds_toArray, List.set_cons_zero, List.set_cons_succ])))
    (refine Ord.wpOrd_call ?_ (fun K hK => ?_); (focus (go_simp; done)); go_simp)
    go_at_call 128
    refine (Hof.out wb.drew hbw.drew).mono ?_
    rintro e w2 ⟨v2, rfl, hr2, hb2⟩
    have hb2' := below_go hb2 (Below.refl wb.heap.size wb).drew
    have Hr2 := Lib.hid hr2
    clear hr2
    (refine hK _ _ (by exact Hcel.out _ hb2') ?_; clear hK K; (try simp only [Act.put, List.setIfInBounds_toArray, List.set_cons_zero, List.set_cons_succ]); repeat (first | (refine Ord.wpOrd_skip ?_ ?_; (focus (go_simp; (try (intro h; cases h)); done)); simp only [Act.put, List.setIfInBounds_toArray, List.set_cons_zero, List.set_cons_succ]) | (refine Ord.wpOrd_take (v := ?_) ?_ ?_ ?_; rotate_left; (focus (go_simp; done)); (focus (intro w' hSw; (try dsimp only at hSw); go_simp; (try with_reducible rfl); done)); simp only [Act.put, List.setIfInBounds_toArray, List.set_cons_zero, List.set_cons_succ])))
    (refine Ord.wpOrd_call ?_ (fun K hK => ?_); (focus (go_simp; done)); go_simp)
    go_at_call 127
    refine (Hsa.out w2 v2 (below_go hb2' hbw) Hr2.out).mono ?_
    rintro e w3 ⟨rfl, hb3⟩
    have hb3' := below_go hb3 hb2'
    (refine hK _ _ (by exact Hcel.out _ hb3') ?_; clear hK K; (try simp only [Act.put, List.setIfInBounds_toArray, List.set_cons_zero, List.set_cons_succ]); repeat (first | (refine Ord.wpOrd_skip ?_ ?_; (focus (go_simp; (try (intro h; cases h)); done)); simp only [Act.put, List.setIfInBounds_toArray, List.set_cons_zero, List.set_cons_succ]) | (refine Ord.wpOrd_take (v := ?_) ?_ ?_ ?_; rotate_left; (focus (go_simp; done)); (focus (intro w' hSw; (try dsimp only at hSw); go_simp; (try with_reducible rfl); done)); simp only [Act.put, List.setIfInBounds_toArray, List.set_cons_zero, List.set_cons_succ])))
    refine Ord.wpOrd_nil ?_
    go_wp2_with fail
    go_ret
    exact ⟨ret_b Hf.out.symm, below_go hb3' hbw⟩
  have d8a : decide ((ky.length : Int) ≤ 64) = true := decide_eq_true (by omega)
  have d8b : decide (ky.length ≤ 64) = true := decide_eq_true (by omega)
  by_cases h9 : vl.length ≤ 64
  rotate_left
  · have d9a : decide ((vl.length : Int) ≤ 64) = false := decide_eq_false (by omega)
    have d9b : decide (vl.length ≤ 64) = false := decide_eq_false (by omega)
    have Hf := Lib.hid (show r = false by rw [Hr.out, decide_eq_false h9]; simp)
    (refine Ord.wp_region_ord [(false, 0), (false, 1), (false, 2), (false, 3), (false, 4), (false, 5), (false, 6), (false, 7), (false, 8), (false, 9), (false, 10), (false, 11), (false, 12), (false, 13), (false, 14), (false, 15), (false, 16), (false, 17), (false, 18), (false, 19), (false, 20), (false, 21), (false, 22), (false, 23), (true, 24), (true, 25), (false, 26), (false, 27), (false, 28), (false, 29), (false, 30), (false, 31), (false, 32), (false, 33), (false, 34), (false, 35), (false, 36), (false, 37), (false, 38), (false, 39), (false, 40), (false, 41), (false, 42), (false, 43), (false, 44), (false, 45), (false, 46), (false, 47), (false, 48), (false, 49), (false, 50), (false, 51), (false, 52), (false, 53), (false, 54), (false, 55), (false, 56), (false, 57), (false, 58), (false, 59)] (fun W => W.cell? ⟨w.heap.size, 0, none⟩ = some (.int .i64 au) ∧ W.cell? ⟨w.heap.size, 1, none⟩ = some (.int .u64 (ct : Int)) ∧ W.cell? ⟨w.heap.size, 2, none⟩ = some (.slice A n c) ∧ W.cell? ⟨w.heap.size, 3, none⟩ = some (.int .i64 kd) ∧ W.cell? ⟨w.heap.size, 4, none⟩ = some (.string (str ky)) ∧ W.cell? ⟨w.heap.size, 5, none⟩ = some (.string (str vl))) (by kernel_rfl) (by kernel_rfl) (by kernel_rfl) (by kernel_rfl) (by exact Hcel.out _ (Below.refl _ _).drew) ?_; simp only [Ord.ordOps, List.filterMap_cons, List.filterMap_nil, List.getElem?_toArray, List.getElem?_cons_succ, List.getElem?_cons_zero, Option.map_some]; repeat (first | (refine Ord.wpOrd_skip ?_ ?_; (focus (go_simp; (try (intro h; cases h)); done)); simp only [Act.put, List.setIfInBounds_toArray, List.set_cons_zero, List.set_cons_succ]) | (refine Ord.wpOrd_take (v := ?_) ?_ ?_ ?_; rotate_left; (focus (go_simp; done)); (focus (intro w' hSw; (try dsimp only at hSw); go_simp; (try with_reducible rfl); done)); simp only [Act.put, List.setIfInBounds_toArray, List.set_cons_zero, List.set_cons_succ])))
    (refine Ord.wpOrd_call ?_ (fun K hK => ?_); (focus (go_simp; done)); go_simp)
    go_at_call 128
    refine (Hof.out wb.drew hbw.drew).mono ?_
    rintro e w2 ⟨v2, rfl, hr2, hb2⟩
    have hb2' := below_go hb2 (Below.refl wb.heap.size wb).drew
    have Hr2 := Lib.hid hr2
    clear hr2
    (refine hK _ _ (by exact Hcel.out _ hb2') ?_; clear hK K; (try simp only [Act.put, List.setIfInBounds_toArray, List.set_cons_zero, List.set_cons_succ]); repeat (first | (refine Ord.wpOrd_skip ?_ ?_; (focus (go_simp; (try (intro h; cases h)); done)); simp only [Act.put, List.setIfInBounds_toArray, List.set_cons_zero, List.set_cons_succ]) | (refine Ord.wpOrd_take (v := ?_) ?_ ?_ ?_; rotate_left; (focus (go_simp; done)); (focus (intro w' hSw; (try dsimp only at hSw); go_simp; (try with_reducible rfl); done)); simp only [Act.put, List.setIfInBounds_toArray, List.set_cons_zero, List.set_cons_succ])))
    (refine Ord.wpOrd_call ?_ (fun K hK => ?_); (focus (go_simp; done)); go_simp)
    go_at_call 127
    refine (Hsa.out w2 v2 (below_go hb2' hbw) Hr2.out).mono ?_
    rintro e w3 ⟨rfl, hb3⟩
    have hb3' := below_go hb3 hb2'
    (refine hK _ _ (by exact Hcel.out _ hb3') ?_; clear hK K; (try simp only [Act.put, List.setIfInBounds_toArray, List.set_cons_zero, List.set_cons_succ]); repeat (first | (refine Ord.wpOrd_skip ?_ ?_; (focus (go_simp; (try (intro h; cases h)); done)); simp only [Act.put, List.setIfInBounds_toArray, List.set_cons_zero, List.set_cons_succ]) | (refine Ord.wpOrd_take (v := ?_) ?_ ?_ ?_; rotate_left; (focus (go_simp; done)); (focus (intro w' hSw; (try dsimp only at hSw); go_simp; (try with_reducible rfl); done)); simp only [Act.put, List.setIfInBounds_toArray, List.set_cons_zero, List.set_cons_succ])))
    refine Ord.wpOrd_nil ?_
    go_wp2_with fail
    go_ret
    exact ⟨ret_b Hf.out.symm, below_go hb3' hbw⟩
  have d9a : decide ((vl.length : Int) ≤ 64) = true := decide_eq_true (by omega)
  have d9b : decide (vl.length ≤ 64) = true := decide_eq_true (by omega)
  by_cases h10 : kd = 2
  · have Hf := Lib.hid (show r = true by rw [Hr.out, decide_eq_true (show 0 ≤ au ∧ au < 16 from ⟨h1, h2⟩), decide_eq_true (show 0 ≤ kd ∧ kd ≤ 2 from ⟨h6, h7⟩), decide_eq_true (show ct ≠ 0 by omega), decide_eq_true h4, decide_eq_true h8, decide_eq_true h9, decide_eq_true h10]; simp)
    have d10 : (kd == 2) = true := by rw [h10]; rfl
    clear h10
    (refine Ord.wp_region_ord [(false, 0), (false, 1), (false, 2), (false, 3), (false, 4), (false, 5), (false, 6), (false, 7), (false, 8), (false, 9), (false, 10), (false, 11), (false, 12), (false, 13), (false, 14), (false, 15), (false, 16), (false, 17), (false, 18), (false, 19), (false, 20), (false, 21), (false, 22), (false, 23), (true, 24), (true, 25), (false, 26), (false, 27), (false, 28), (false, 29), (false, 30), (false, 31), (false, 32), (false, 33), (false, 34), (false, 35), (false, 36), (false, 37), (false, 38), (false, 39), (false, 40), (false, 41), (false, 42), (false, 43), (false, 44), (false, 45), (false, 46), (false, 47), (false, 48), (false, 49), (false, 50), (false, 51), (false, 52), (false, 53), (false, 54), (false, 55), (false, 56), (false, 57), (false, 58), (false, 59)] (fun W => W.cell? ⟨w.heap.size, 0, none⟩ = some (.int .i64 au) ∧ W.cell? ⟨w.heap.size, 1, none⟩ = some (.int .u64 (ct : Int)) ∧ W.cell? ⟨w.heap.size, 2, none⟩ = some (.slice A n c) ∧ W.cell? ⟨w.heap.size, 3, none⟩ = some (.int .i64 kd) ∧ W.cell? ⟨w.heap.size, 4, none⟩ = some (.string (str ky)) ∧ W.cell? ⟨w.heap.size, 5, none⟩ = some (.string (str vl))) (by kernel_rfl) (by kernel_rfl) (by kernel_rfl) (by kernel_rfl) (by exact Hcel.out _ (Below.refl _ _).drew) ?_; simp only [Ord.ordOps, List.filterMap_cons, List.filterMap_nil, List.getElem?_toArray, List.getElem?_cons_succ, List.getElem?_cons_zero, Option.map_some]; repeat (first | (refine Ord.wpOrd_skip ?_ ?_; (focus (go_simp; (try (intro h; cases h)); done)); simp only [Act.put, List.setIfInBounds_toArray, List.set_cons_zero, List.set_cons_succ]) | (refine Ord.wpOrd_take (v := ?_) ?_ ?_ ?_; rotate_left; (focus (go_simp; done)); (focus (intro w' hSw; (try dsimp only at hSw); go_simp; (try with_reducible rfl); done)); simp only [Act.put, List.setIfInBounds_toArray, List.set_cons_zero, List.set_cons_succ])))
    (refine Ord.wpOrd_call ?_ (fun K hK => ?_); (focus (go_simp; done)); go_simp)
    go_at_call 128
    refine (Hof.out wb.drew hbw.drew).mono ?_
    rintro e w2 ⟨v2, rfl, hr2, hb2⟩
    have hb2' := below_go hb2 (Below.refl wb.heap.size wb).drew
    have Hr2 := Lib.hid hr2
    clear hr2
    (refine hK _ _ (by exact Hcel.out _ hb2') ?_; clear hK K; (try simp only [Act.put, List.setIfInBounds_toArray, List.set_cons_zero, List.set_cons_succ]); repeat (first | (refine Ord.wpOrd_skip ?_ ?_; (focus (go_simp; (try (intro h; cases h)); done)); simp only [Act.put, List.setIfInBounds_toArray, List.set_cons_zero, List.set_cons_succ]) | (refine Ord.wpOrd_take (v := ?_) ?_ ?_ ?_; rotate_left; (focus (go_simp; done)); (focus (intro w' hSw; (try dsimp only at hSw); go_simp; (try with_reducible rfl); done)); simp only [Act.put, List.setIfInBounds_toArray, List.set_cons_zero, List.set_cons_succ])))
    (refine Ord.wpOrd_call ?_ (fun K hK => ?_); (focus (go_simp; done)); go_simp)
    go_at_call 127
    refine (Hsa.out w2 v2 (below_go hb2' hbw) Hr2.out).mono ?_
    rintro e w3 ⟨rfl, hb3⟩
    have hb3' := below_go hb3 hb2'
    (refine hK _ _ (by exact Hcel.out _ hb3') ?_; clear hK K; (try simp only [Act.put, List.setIfInBounds_toArray, List.set_cons_zero, List.set_cons_succ]); repeat (first | (refine Ord.wpOrd_skip ?_ ?_; (focus (go_simp; (try (intro h; cases h)); done)); simp only [Act.put, List.setIfInBounds_toArray, List.set_cons_zero, List.set_cons_succ]) | (refine Ord.wpOrd_take (v := ?_) ?_ ?_ ?_; rotate_left; (focus (go_simp; done)); (focus (intro w' hSw; (try dsimp only at hSw); go_simp; (try with_reducible rfl); done)); simp only [Act.put, List.setIfInBounds_toArray, List.set_cons_zero, List.set_cons_succ])))
    refine Ord.wpOrd_nil ?_
    go_wp2_with fail
    go_ret
    exact ⟨ret_b Hf.out.symm, below_go hb3' hbw⟩
  have d10 : (kd == 2) = false := by rw [beq_eq_false_iff_ne]; exact h10
  have Hf := Lib.hid (show r = decide (vl = []) by rw [Hr.out, decide_eq_true (show 0 ≤ au ∧ au < 16 from ⟨h1, h2⟩), decide_eq_true (show 0 ≤ kd ∧ kd ≤ 2 from ⟨h6, h7⟩), decide_eq_true (show ct ≠ 0 by omega), decide_eq_true h4, decide_eq_true h8, decide_eq_true h9, decide_eq_false h10]; simp)
  rw [show decide (vl = []) = vl.isEmpty by cases vl <;> rfl] at Hf
  (refine Ord.wp_region_ord [(false, 0), (false, 1), (false, 2), (false, 3), (false, 4), (false, 5), (false, 6), (false, 7), (false, 8), (false, 9), (false, 10), (false, 11), (false, 12), (false, 13), (false, 14), (false, 15), (false, 16), (false, 17), (false, 18), (false, 19), (false, 20), (false, 21), (false, 22), (false, 23), (true, 24), (true, 25), (false, 26), (false, 27), (false, 28), (false, 29), (false, 30), (false, 31), (false, 32), (false, 33), (false, 34), (false, 35), (false, 36), (false, 37), (false, 38), (false, 39), (false, 40), (false, 41), (false, 42), (false, 43), (false, 44), (false, 45), (false, 46), (false, 47), (false, 48), (false, 49), (false, 50), (false, 51), (false, 52), (false, 53), (false, 54), (false, 55), (false, 56), (false, 57), (false, 58), (false, 59)] (fun W => W.cell? ⟨w.heap.size, 0, none⟩ = some (.int .i64 au) ∧ W.cell? ⟨w.heap.size, 1, none⟩ = some (.int .u64 (ct : Int)) ∧ W.cell? ⟨w.heap.size, 2, none⟩ = some (.slice A n c) ∧ W.cell? ⟨w.heap.size, 3, none⟩ = some (.int .i64 kd) ∧ W.cell? ⟨w.heap.size, 4, none⟩ = some (.string (str ky)) ∧ W.cell? ⟨w.heap.size, 5, none⟩ = some (.string (str vl))) (by kernel_rfl) (by kernel_rfl) (by kernel_rfl) (by kernel_rfl) (by exact Hcel.out _ (Below.refl _ _).drew) ?_; simp only [Ord.ordOps, List.filterMap_cons, List.filterMap_nil, List.getElem?_toArray, List.getElem?_cons_succ, List.getElem?_cons_zero, Option.map_some]; repeat (first | (refine Ord.wpOrd_skip ?_ ?_; (focus (go_simp; (try (intro h; cases h)); done)); simp only [Act.put, List.setIfInBounds_toArray, List.set_cons_zero, List.set_cons_succ]) | (refine Ord.wpOrd_take (v := ?_) ?_ ?_ ?_; rotate_left; (focus (go_simp; done)); (focus (intro w' hSw; (try dsimp only at hSw); go_simp; (try with_reducible rfl); done)); simp only [Act.put, List.setIfInBounds_toArray, List.set_cons_zero, List.set_cons_succ])))
  (refine Ord.wpOrd_call ?_ (fun K hK => ?_); (focus (go_simp; done)); go_simp)
  go_at_call 128
  refine (Hof.out wb.drew hbw.drew).mono ?_
  rintro e w2 ⟨v2, rfl, hr2, hb2⟩
  have hb2' := below_go hb2 (Below.refl wb.heap.size wb).drew
  have Hr2 := Lib.hid hr2
  clear hr2
  (refine hK _ _ (by exact Hcel.out _ hb2') ?_; clear hK K; (try simp only [Act.put, List.setIfInBounds_toArray, List.set_cons_zero, List.set_cons_succ]); repeat (first | (refine Ord.wpOrd_skip ?_ ?_; (focus (go_simp; (try (intro h; cases h)); done)); simp only [Act.put, List.setIfInBounds_toArray, List.set_cons_zero, List.set_cons_succ]) | (refine Ord.wpOrd_take (v := ?_) ?_ ?_ ?_; rotate_left; (focus (go_simp; done)); (focus (intro w' hSw; (try dsimp only at hSw); go_simp; (try with_reducible rfl); done)); simp only [Act.put, List.setIfInBounds_toArray, List.set_cons_zero, List.set_cons_succ])))
  (refine Ord.wpOrd_call ?_ (fun K hK => ?_); (focus (go_simp; done)); go_simp)
  go_at_call 127
  refine (Hsa.out w2 v2 (below_go hb2' hbw) Hr2.out).mono ?_
  rintro e w3 ⟨rfl, hb3⟩
  have hb3' := below_go hb3 hb2'
  (refine hK _ _ (by exact Hcel.out _ hb3') ?_; clear hK K; (try simp only [Act.put, List.setIfInBounds_toArray, List.set_cons_zero, List.set_cons_succ]); repeat (first | (refine Ord.wpOrd_skip ?_ ?_; (focus (go_simp; (try (intro h; cases h)); done)); simp only [Act.put, List.setIfInBounds_toArray, List.set_cons_zero, List.set_cons_succ]) | (refine Ord.wpOrd_take (v := ?_) ?_ ?_ ?_; rotate_left; (focus (go_simp; done)); (focus (intro w' hSw; (try dsimp only at hSw); go_simp; (try with_reducible rfl); done)); simp only [Act.put, List.setIfInBounds_toArray, List.set_cons_zero, List.set_cons_succ])))
  refine Ord.wpOrd_nil ?_
  go_wp2_with fail
  go_ret
  exact ⟨ret_b Hf.out.symm, below_go hb3' hbw⟩
end Go.Proofs.Ytcjabfdjngekfaa.Upd
set_option linter.unusedVariables false
set_option linter.unusedSimpArgs false
namespace Go.Proofs.Ytcjabfdjngekfaa.Upd
open Go.RowKit Go.Proofs.Ytcjabfdjngekfaa.Wd Go.Proofs.Ytcjabfdjngekfaa.Use Go.Proofs.Ytcjabfdjngekfaa.Lay Go.Proofs.Ytcjabfdjngekfaa.Ids

theorem built_zarr : Try.prog.built 43 [] = some (bs (List.replicate 32 0)).toArray := by kernel_rfl
set_option maxRecDepth 100000 in
set_option maxHeartbeats 16000000 in
theorem rId14_any (u : U) (pv : Value) (w : World) (hu : UIn w u pv) (hn : u.ps.length ≤ 100000) (C : List Value) (hC : C = Sha.ws (Sha.K0 ++ Sha.F0.list)) : Calls Try.prog 71 #[.agg #[.int .i64 u.au, .int .u64 (u.ct : Int), pv, .int .i64 u.kd, .string (str u.ky), .string (str u.vl)], .agg C.toArray] w fun r w' => r = .returned (.agg (bs u.id).toArray) ∧ Below w.heap.size w w' := by
  have hri := fun W (h : Below w.heap.size w W) => rRight_any u pv W (hu.below h) hn
  have hpu := fun (hr : u.right = true) W (h : Below w.heap.size w W) => rPut14_any u pv W (hu.below h) hr
  have hle : u.right = true → u.put.length ≤ 1000000 := fun hr => by have := u.pb_le pv hu; rw [U.pb, hr] at this; simp only [if_true] at this; omega
  have hof := fun (hr : u.right = true) W => Sha.cof_any u.put (hle hr) W
  rw [← hC] at hof
  have hl72 : C.length = 72 := by rw [hC, Sha.ws_length]; rfl
  have HiC := Lib.hid (show (Try.prog.info? 114).map (·.size) = some C.length by rw [hl72]; rfl)
  obtain ⟨A, c, rfl, -, -, -⟩ := hu.ps.slice_
  have hil := U.id_len u
  have hid : u.id = if u.right then Sha.sha u.put else List.replicate 32 0 := rfl
  generalize u.id = i0 at hid hil ⊢
  generalize u.right = R at hri hpu hof hid
  generalize Sha.sha u.put = sx at hof hid
  generalize u.put = X at hpu hof
  obtain ⟨au, ct, ps, kd, ky, vl⟩ := u
  simp only at hri hpu ⊢
  generalize ps.length = n at *
  have Hri := Lib.hid hri
  have Hpu := Lib.hid hpu
  have Hof := Lib.hid hof
  have Hil := Lib.hid hil
  obtain ⟨wb, hwb⟩ : ∃ wb, wb = ((w.alloc (.cells #[.int .i64 au, .int .u64 (ct : Int), .slice A n c, .int .i64 kd, .string (str ky), .string (str vl)] 105)).alloc (.cells C.toArray 114)).alloc (.cells (bs (List.replicate 32 0)).toArray 43) := ⟨_, rfl⟩
  have hk1 := blk_alloc (blk_alloc (heap_alloc_new w (.cells #[.int .i64 au, .int .u64 (ct : Int), .slice A n c, .int .i64 kd, .string (str ky), .string (str vl)] 105)) (.cells C.toArray 114)) (.cells (bs (List.replicate 32 0)).toArray 43)
  have hk2 := blk_alloc (alloc_at w (.cells #[.int .i64 au, .int .u64 (ct : Int), .slice A n c, .int .i64 kd, .string (str ky), .string (str vl)] 105) (.cells C.toArray 114)) (.cells (bs (List.replicate 32 0)).toArray 43)
  have hk3 := heap_alloc_new ((w.alloc (.cells #[.int .i64 au, .int .u64 (ct : Int), .slice A n c, .int .i64 kd, .string (str ky), .string (str vl)] 105)).alloc (.cells C.toArray 114)) (.cells (bs (List.replicate 32 0)).toArray 43)
  rw [alloc_size, alloc_size] at hk3
  rw [← hwb] at hk1 hk2 hk3
  have Hcel := Lib.hid (show ∀ W, Below wb.heap.size wb W → (W.cell? ⟨w.heap.size, 0, none⟩ = some (.int .i64 au) ∧ W.cell? ⟨w.heap.size, 1, none⟩ = some (.int .u64 (ct : Int)) ∧ W.cell? ⟨w.heap.size, 2, none⟩ = some (.slice A n c) ∧ W.cell? ⟨w.heap.size, 3, none⟩ = some (.int .i64 kd) ∧ W.cell? ⟨w.heap.size, 4, none⟩ = some (.string (str ky)) ∧ W.cell? ⟨w.heap.size, 5, none⟩ = some (.string (str vl))) ∧ W.rangeAt (w.heap.size + 1) 0 C from
    fun W h => ⟨ucells (blk_below hk1 h), range_all (blk_below hk2 h)⟩)
  have Hz := Lib.hid (fun W (h : Below wb.heap.size wb W) => (show W.heap[w.heap.size + 1 + 1]? = some (.cells (bs (List.replicate 32 0)).toArray 43 (0, 0)) from blk_below hk3 h))
  have hbw : Below w.heap.size w wb := by rw [hwb]; exact (below_two _ _ _).alloc (by rw [alloc_size, alloc_size]; omega) _
  have Hwb := Lib.hid (show ((w.alloc (.cells #[.int .i64 au, .int .u64 (ct : Int), .slice A n c, .int .i64 kd, .string (str ky), .string (str vl)] 105)).alloc (.cells C.toArray 114)).alloc (.cells #[.int .u8 0, .int .u8 0, .int .u8 0, .int .u8 0, .int .u8 0, .int .u8 0, .int .u8 0, .int .u8 0, .int .u8 0, .int .u8 0, .int .u8 0, .int .u8 0, .int .u8 0, .int .u8 0, .int .u8 0, .int .u8 0, .int .u8 0, .int .u8 0, .int .u8 0, .int .u8 0, .int .u8 0, .int .u8 0, .int .u8 0, .int .u8 0, .int .u8 0, .int .u8 0, .int .u8 0, .int .u8 0, .int .u8 0, .int .u8 0, .int .u8 0, .int .u8 0] 43) = wb by rw [hwb]; rfl)
  have Hbu := Lib.hid built_zarr
  have Hone := Lib.hid (show ∀ v ∈ bs i0, v.oneCell' = true from bs_oneCell _)
  have Hinf := Lib.hid (show (Try.prog.info? 43).map (·.size) = some (bs i0).length by rw [bs_length, hil]; rfl)
  have Hll := Lib.hid (show (bs i0).length = (bs (List.replicate 32 0)).length by rw [bs_length, bs_length, hil]; rfl)
  clear hri hpu hof hil hu hwb hk1 hk2 hk3 hC hl72 hle hn
  go_enter Try.func71, Try.ntmps71
  go_upto_region 1 with fail
  rw [Hwb.out]
  obtain ⟨⟨x0, x1, x2, x3, x4, x5⟩, -⟩ := Hcel.out _ (Below.refl _ _)
  cases R with
  | false =>
    have Hid0 := Lib.hid (show i0 = List.replicate 32 0 from hid)
    clear hid
    go_wp2_with (first
      | (go_at_call 68; refine (Hri.out _ hbw).mono ?_; rintro r w2 ⟨rfl, hb2⟩; have hB2 := below_go hb2 hbw)
      | (refine Sha.wpList_build_to rfl _ _ rfl (bs (List.replicate 32 0)).toArray ?_ ?_; focus (rw [List.map_toArray]; exact Hbu.out))
      | (refine Sha.wpList_store_all rfl 43 _ _ rfl (w.heap.size + 1 + 1) (bs i0) (bs (List.replicate 32 0)) rfl (by rw [Hid0.out]; rfl) Hone.out Hll.out Hinf.out _ (Hz.out _ hb2) ?_; intro w4 hz4 hg4))
    refine bodyPost_ret (v := .agg (bs i0).toArray) (Sha.results_cell_mid rfl _ _ (w.heap.size + 1 + 1) (bs i0) _ rfl (range_all hz4.out) Try.underlying43 rfl Hinf.out) rfl ⟨rfl, ?_⟩
    exact hB2.grown hg4 hB2.size (fun k hk => by injection hk with hk; omega)
  | true =>
    have Hid0 := Lib.hid (show i0 = sx from hid)
    clear hid
    go_upto_region 3 with (go_at_call 68; refine (Hri.out _ hbw).mono ?_; rintro r w2 ⟨rfl, hb2⟩; have hB2 := below_go hb2 hbw)
    (refine Ord.wp_region_ord [(false, 0), (false, 1), (true, 2), (true, 3), (true, 4)] (fun W => (W.cell? ⟨w.heap.size, 0, none⟩ = some (.int .i64 au) ∧ W.cell? ⟨w.heap.size, 1, none⟩ = some (.int .u64 (ct : Int)) ∧ W.cell? ⟨w.heap.size, 2, none⟩ = some (.slice A n c) ∧ W.cell? ⟨w.heap.size, 3, none⟩ = some (.int .i64 kd) ∧ W.cell? ⟨w.heap.size, 4, none⟩ = some (.string (str ky)) ∧ W.cell? ⟨w.heap.size, 5, none⟩ = some (.string (str vl))) ∧ W.rangeAt (w.heap.size + 1) 0 C) (by kernel_rfl) (by kernel_rfl) (by kernel_rfl) (by kernel_rfl) (by exact Hcel.out _ hb2.drew) ?_; simp only [Ord.ordOps, List.filterMap_cons, List.filterMap_nil, List.getElem?_toArray, List.getElem?_cons_succ, List.getElem?_cons_zero, Option.map_some]; repeat (first | (refine Ord.wpOrd_skip ?_ ?_; (focus (go_simp; (try (intro h; cases h)); done)); simp only [Act.put, List.setIfInBounds_toArray, List.set_cons_zero, List.set_cons_succ]) | (refine Ord.wpOrd_take (v := ?_) ?_ ?_ ?_; rotate_left; (focus (go_simp; done)); (focus (intro w' hSw; (try dsimp only at hSw); go_simp; (try with_reducible rfl); done)); simp only [Act.put, List.setIfInBounds_toArray, List.set_cons_zero, List.set_cons_succ])))
    refine Ord.wpOrd_load_mid ?_ 114 _ rfl (w.heap.size + 1) 0 rfl C _ (fun w h => h.2) Try.underlying114 rfl HiC.out ?_
    focus (go_simp; done)
    ((try simp only [Act.put, List.setIfInBounds_toArray, List.set_cons_zero, List.set_cons_succ]); repeat (first | (refine Ord.wpOrd_skip ?_ ?_; (focus (go_simp; (try (intro h; cases h)); done)); simp only [Act.put, List.setIfInBounds_toArray, List.set_cons_zero, List.set_cons_succ]) | (refine Ord.wpOrd_take (v := ?_) ?_ ?_ ?_; rotate_left; (focus (go_simp; done)); (focus (intro w' hSw; (try dsimp only at hSw); go_simp; (try with_reducible rfl); done)); simp only [Act.put, List.setIfInBounds_toArray, List.set_cons_zero, List.set_cons_succ])))
    (refine Ord.wpOrd_call ?_ (fun K hK => ?_); (focus (go_simp; done)); go_simp)
    go_at_call 69
    refine (Hpu.out (by trivial) w2.drew hB2.drew).mono ?_
    rintro r w3 ⟨rfl, hb3⟩
    have hb3' := below_go hb3 hb2.drew
    (refine hK _ _ (by exact Hcel.out _ hb3') ?_; clear hK K; (try simp only [Act.put, List.setIfInBounds_toArray, List.set_cons_zero, List.set_cons_succ]); repeat (first | (refine Ord.wpOrd_skip ?_ ?_; (focus (go_simp; (try (intro h; cases h)); done)); simp only [Act.put, List.setIfInBounds_toArray, List.set_cons_zero, List.set_cons_succ]) | (refine Ord.wpOrd_take (v := ?_) ?_ ?_ ?_; rotate_left; (focus (go_simp; done)); (focus (intro w' hSw; (try dsimp only at hSw); go_simp; (try with_reducible rfl); done)); simp only [Act.put, List.setIfInBounds_toArray, List.set_cons_zero, List.set_cons_succ])))
    (refine Ord.wpOrd_call ?_ (fun K hK => ?_); (focus (go_simp; done)); go_simp)
    go_at_call 131
    refine (Hof.out (by trivial) w3).mono ?_
    rintro r w4 ⟨rfl, hb4⟩
    have hb4' := below_go hb4 hb3'
    (refine hK _ _ (by exact Hcel.out _ hb4') ?_; clear hK K; (try simp only [Act.put, List.setIfInBounds_toArray, List.set_cons_zero, List.set_cons_succ]); repeat (first | (refine Ord.wpOrd_skip ?_ ?_; (focus (go_simp; (try (intro h; cases h)); done)); simp only [Act.put, List.setIfInBounds_toArray, List.set_cons_zero, List.set_cons_succ]) | (refine Ord.wpOrd_take (v := ?_) ?_ ?_ ?_; rotate_left; (focus (go_simp; done)); (focus (intro w' hSw; (try dsimp only at hSw); go_simp; (try with_reducible rfl); done)); simp only [Act.put, List.setIfInBounds_toArray, List.set_cons_zero, List.set_cons_succ])))
    refine Ord.wpOrd_store_all ?_ 43 _ _ rfl (w.heap.size + 1 + 1) (bs i0) (bs (List.replicate 32 0)) rfl (by rw [Hid0.out]; rfl) Hone.out Hll.out Hinf.out _ (Hz.out _ hb4') (fun w5 hz5 hg5 => ?_)
    focus (go_simp; done)
    have hB4 := below_go hb4' hbw
    refine ⟨?_, ?_⟩
    · have h := Hcel.out _ hb4'
      have hsz : w.heap.size + 1 + 1 < w4.heap.size := blk_lt (Hz.out _ hb4')
      have hk0 : w5.heap[w.heap.size]? = w4.heap[w.heap.size]? := hg5.block w.heap.size (by omega) (by intro e; injection e with e; omega)
      have hk1 : w5.heap[w.heap.size + 1]? = w4.heap[w.heap.size + 1]? := hg5.block (w.heap.size + 1) (by omega) (by intro e; injection e with e; omega)
      have hc0 : ∀ i, w5.cell? ⟨w.heap.size, i, none⟩ = w4.cell? ⟨w.heap.size, i, none⟩ := fun i => by simp only [World.cell?, hk0]
      have hc1 : ∀ i, w5.cell? ⟨w.heap.size + 1, i, none⟩ = w4.cell? ⟨w.heap.size + 1, i, none⟩ := fun i => by simp only [World.cell?, hk1]
      rw [hc0, hc0, hc0, hc0, hc0, hc0]
      exact ⟨h.1, fun j v hv => by rw [hc1]; exact h.2 j v hv⟩
    ((try simp only [Act.put, List.setIfInBounds_toArray, List.set_cons_zero, List.set_cons_succ]); repeat (first | (refine Ord.wpOrd_skip ?_ ?_; (focus (go_simp; (try (intro h; cases h)); done)); simp only [Act.put, List.setIfInBounds_toArray, List.set_cons_zero, List.set_cons_succ]) | (refine Ord.wpOrd_take (v := ?_) ?_ ?_ ?_; rotate_left; (focus (go_simp; done)); (focus (intro w' hSw; (try dsimp only at hSw); go_simp; (try with_reducible rfl); done)); simp only [Act.put, List.setIfInBounds_toArray, List.set_cons_zero, List.set_cons_succ])))
    refine Ord.wpOrd_nil ?_
    go_wp2_with fail
    refine bodyPost_ret (v := .agg (bs i0).toArray) (Sha.results_cell_mid rfl _ _ (w.heap.size + 1 + 1) (bs i0) _ rfl (range_all hz5.out) Try.underlying43 rfl Hinf.out) rfl ⟨rfl, ?_⟩
    exact hB4.grown hg5 hB4.size (fun k hk => by injection hk with hk; omega)
end Go.Proofs.Ytcjabfdjngekfaa.Upd
set_option linter.unusedVariables false
set_option linter.unusedSimpArgs false
namespace Go.Proofs.Ytcjabfdjngekfaa.Upd
open Go.RowKit Go.Proofs.Ytcjabfdjngekfaa.Wd Go.Proofs.Ytcjabfdjngekfaa.Use Go.Proofs.Ytcjabfdjngekfaa.Lay Go.Proofs.Ytcjabfdjngekfaa.Ids

theorem read8_le (b : List UInt8) : (Ids.read b 8).1.length ≤ 100000 := by
  have h := sml_top ⟨b, 0⟩ 8
  rw [show ((8 : Nat) : Int) = 8 from rfl] at h
  have := Ids.read_len8 b h
  omega
theorem chain5_le (b : List UInt8) (p1 p2 p3 : Nat × Rdr) (p4 p5 : List UInt8 × Rdr) (h1 : p1 = (⟨b, 0⟩ : Rdr).small 15) (h2 : p2 = p1.2.number) (h3 : p3 = p2.2.small 2) (h4 : p4 = p3.2.text 64) (h5 : p5 = p4.2.text 64) : p5.2.b.length ≤ b.length := by
  have e1 := sml_le ⟨b, 0⟩ 15
  have e2 := num_le p1.2
  have e3 := sml_le p2.2 2
  have e4 := txt_le p3.2 64
  have e5 := txt_le p4.2 64
  rw [← h1] at e1
  rw [← h2] at e2
  rw [← h3] at e3
  rw [← h4] at e4
  rw [← h5] at e5
  simp only at e1
  omega
theorem q5b_le {b : List UInt8} (hb : b.length ≤ 100000) : (q5 b).2.b.length ≤ 1000000 := by
  have := chain5_le b (q1 b) (q2 b) (q3 b) (q4 b) (q5 b) rfl rfl rfl rfl rfl
  omega
theorem rtext_as (r : Rdr) (p : List UInt8 × Rdr) (hp : p = r.text 64) (w : World) :
    Calls Try.prog 109 #[.agg #[.string (str r.b), .int .i64 (r.bad : Int)], .int .i64 64] w fun e w' => e = .returned (.tuple #[.agg #[.string (str p.2.b), .int .i64 (p.2.bad : Int)], .string (str p.1)]) ∧ Below w.heap.size w w' := by subst hp; exact Ref01.Text_any r 64 (by omega) w
theorem rsmall_as (r : Rdr) (p : Nat × Rdr) (m : Int) (hp : p = r.small m) (hm : m < 9223372036854775808) (w : World) :
    Calls Try.prog 108 #[.agg #[.string (str r.b), .int .i64 (r.bad : Int)], .int .i64 m] w fun e w' => e = .returned (.tuple #[.agg #[.string (str p.2.b), .int .i64 (p.2.bad : Int)], .int .i64 (p.1 : Int)]) ∧ Below w.heap.size w w' := by subst hp; exact Ref01.Small_any r m hm w
theorem rnumber_as (r : Rdr) (p : Nat × Rdr) (hp : p = r.number) (w : World) :
    Calls Try.prog 107 #[.agg #[.string (str r.b), .int .i64 (r.bad : Int)]] w fun e w' => e = .returned (.tuple #[.agg #[.string (str p.2.b), .int .i64 (p.2.bad : Int)], .int .u64 (p.1 : Int)]) ∧ Below w.heap.size w w' := by subst hp; exact Ref01.Number_any r w
/-- what the reference's reading holds: the result's block, the update's, the reader's -/
structure RZ (w W : World) (r : Rdr) (G : Nat) (cs : List Value) : Prop where
  z : W.heap[w.heap.size]? = some (.cells zcs.toArray 105 (0, 0))
  ev : W.heap[w.heap.size + 1]? = some (.cells cs.toArray 105 (0, 0))
  rd : W.heap[G]? = some (.cells #[.string (str r.b), .int .i64 (r.bad : Int)] 149 (0, 0))
  lG : w.heap.size + 1 < G
  b : Below w.heap.size w W
variable {w W W1 : World} {r r' : Rdr} {G : Nat} {cs : List Value}
theorem RZ.below (h : RZ w W r G cs) (hb : Below W.heap.size W W1) : RZ w W1 r G cs := ⟨blk_below h.z hb, blk_below h.ev hb, blk_below h.rd hb, h.lG, below_go hb h.b⟩
theorem RZ.set (h : RZ w W r G cs) (i : Nat) (v : Value) : RZ w (W.setCell ⟨w.heap.size + 1, i, none⟩ v) r G (cs.set i v) :=
  ⟨blk_far h.z (by show w.heap.size ≠ w.heap.size + 1; omega) _, by have := blk_set h.ev i v; rwa [List.setIfInBounds_toArray] at this, blk_far h.rd (by have := h.lG; show G ≠ w.heap.size + 1; omega) _, h.lG, h.b.setCell (by show w.heap.size ≤ w.heap.size + 1; omega) _⟩
theorem RZ.rset (h : RZ w W r G cs) (r' : Rdr) : RZ w ((W.setCell ⟨G, 0, none⟩ (.string (str r'.b))).setCell ⟨G, 1, none⟩ (.int .i64 (r'.bad : Int))) r' G cs := by
  have hl := h.lG
  refine ⟨blk_far (blk_far h.z (by show w.heap.size ≠ G; omega) _) (by show w.heap.size ≠ G; omega) _, blk_far (blk_far h.ev (by show w.heap.size + 1 ≠ G; omega) _) (by show w.heap.size + 1 ≠ G; omega) _, ?_, h.lG, (h.b.setCell (by show w.heap.size ≤ G; omega) _).setCell (by show w.heap.size ≤ G; omega) _⟩
  have := blk_set (blk_set h.rd 0 (.string (str r'.b))) 1 (.int .i64 (r'.bad : Int))
  exact this
theorem RZ.c (h : RZ w W r G cs) : W.cell? ⟨G, 0, none⟩ = some (.string (str r.b)) ∧ W.cell? ⟨G, 1, none⟩ = some (.int .i64 (r.bad : Int)) ∧ W.frozen? ⟨G, 0, none⟩ = false ∧ W.frozen? ⟨G, 1, none⟩ = false := by
  refine ⟨?_, ?_, blk_frozen h.rd 0, blk_frozen h.rd 1⟩ <;> (rw [blk_cell h.rd]; rfl)
/-- behind a fault nothing is read: the fault of the texts is one of the whole -/
theorem fin_of_bad {b : List UInt8} (h : (q5 b).2.bad ≠ 0) : (q6 b).2.fin ≠ 0 := by
  have h6 : q6 b = ([], (q5 b).2) := by unfold q6 Rdr.raw; rw [if_neg h]
  rw [h6]
  simp only [Rdr.fin, h, false_and, if_false]
  exact h
theorem q6_ok {b : List UInt8} (h : (q5 b).2.bad = 0) : q6 b = ((q5 b).2.b, ⟨[], 0⟩) := by
  have hr : (q5 b).2 = ⟨(q5 b).2.b, 0⟩ := by rw [← h]
  have h1 := raw_all (q5 b).2.b
  unfold q6
  rw [← hr] at h1
  exact h1
theorem good_ref (b : List UInt8) : U.good b = (decide ((q5 b).2.bad = 0) && decide ((Ids.read (q5 b).2.b 8).2 = 0) && (U.raw b).right) := by
  by_cases h : (q5 b).2.bad = 0
  · rw [decide_eq_true h, Bool.true_and]
    unfold U.good
    rw [q6_ok h, fin_nil, show decide ((0 : Nat) = 0) = true from rfl, Bool.true_and]
  · rw [decide_eq_false h]
    unfold U.good
    rw [decide_eq_false (fin_of_bad h)]; simp
theorem raw_ref {b : List UInt8} (h : (q5 b).2.bad = 0) : (U.raw b).ps = (Ids.read (q5 b).2.b 8).1 := by rw [raw_ps, q6_ok h]
set_option maxRecDepth 100000 in
set_option maxHeartbeats 16000000 in
theorem rRead14_any (b : List UInt8) (w : World) (hb : b.length ≤ 100000) : Calls Try.prog 70 #[.string (str b)] w fun e w' => ∃ pv, e = .returned (.tuple #[.agg #[.int .i64 (U.read b).au, .int .u64 ((U.read b).ct : Int), pv, .int .i64 (U.read b).kd, .string (str (U.read b).ky), .string (str (U.read b).vl)], .bool (U.good b)]) ∧ UIn w' (U.read b) pv ∧ Below w.heap.size w w' := by
  obtain ⟨k1, k2, k3, k4, k5, k6⟩ := q_le b
  have hs1 : ∀ W, Calls Try.prog 108 #[.agg #[.string (str b), .int .i64 0], .int .i64 15] W fun e w' => e = .returned (.tuple #[.agg #[.string (str (q1 b).2.b), .int .i64 ((q1 b).2.bad : Int)], .int .i64 ((q1 b).1 : Int)]) ∧ Below W.heap.size W w' := fun W => rsmall_as ⟨b, 0⟩ (q1 b) 15 rfl (by omega) W
  have hs2 : ∀ W, Calls Try.prog 107 #[.agg #[.string (str (q1 b).2.b), .int .i64 ((q1 b).2.bad : Int)]] W fun e w' => e = .returned (.tuple #[.agg #[.string (str (q2 b).2.b), .int .i64 ((q2 b).2.bad : Int)], .int .u64 ((q2 b).1 : Int)]) ∧ Below W.heap.size W w' := fun W => rnumber_as (q1 b).2 (q2 b) rfl W
  have hs3 : ∀ W, Calls Try.prog 108 #[.agg #[.string (str (q2 b).2.b), .int .i64 ((q2 b).2.bad : Int)], .int .i64 2] W fun e w' => e = .returned (.tuple #[.agg #[.string (str (q3 b).2.b), .int .i64 ((q3 b).2.bad : Int)], .int .i64 ((q3 b).1 : Int)]) ∧ Below W.heap.size W w' := fun W => rsmall_as (q2 b).2 (q3 b) 2 rfl (by omega) W
  have hs4 : ∀ W, Calls Try.prog 109 #[.agg #[.string (str (q3 b).2.b), .int .i64 ((q3 b).2.bad : Int)], .int .i64 64] W fun e w' => e = .returned (.tuple #[.agg #[.string (str (q4 b).2.b), .int .i64 ((q4 b).2.bad : Int)], .string (str (q4 b).1)]) ∧ Below W.heap.size W w' := fun W => rtext_as (q3 b).2 (q4 b) rfl W
  have hs5 : ∀ W, Calls Try.prog 109 #[.agg #[.string (str (q4 b).2.b), .int .i64 ((q4 b).2.bad : Int)], .int .i64 64] W fun e w' => e = .returned (.tuple #[.agg #[.string (str (q5 b).2.b), .int .i64 ((q5 b).2.bad : Int)], .string (str (q5 b).1)]) ∧ Below W.heap.size W w' := fun W => rtext_as (q4 b).2 (q5 b) rfl W
  have h5b := q5b_le hb
  have hs8 := fun W => Ids.rRead_any (q5 b).2.b 8 h5b (by omega) W
  have hw32 := Ids.read_w (q5 b).2.b 8
  have hplen := read8_le (q5 b).2.b
  have hgood := good_ref b
  have hrps0 := @raw_ref b
  have hrau : (U.raw b).au = ((q1 b).1 : Int) := by unfold U.raw; dsimp only
  have hrkd : (U.raw b).kd = ((q3 b).1 : Int) := by unfold U.raw; dsimp only
  have hrky : (U.raw b).ky = (q4 b).1 := by unfold U.raw; dsimp only
  have hrvl : (U.raw b).vl = (q5 b).1 := by unfold U.raw; dsimp only
  have hrct := raw_ct b
  have hri0 : ∀ W pv, Rd W 32 pv (U.raw b).ps.length (ix (U.raw b).ps) → W32 (U.raw b).ps → (U.raw b).ps.length ≤ 100000 → Calls Try.prog 68 #[.agg #[.int .i64 ((q1 b).1 : Int), .int .u64 ((q2 b).1 : Int), pv, .int .i64 ((q3 b).1 : Int), .string (str (q4 b).1), .string (str (q5 b).1)]] W fun e w' => e = .returned (.bool (U.raw b).right) ∧ Below W.heap.size W w' := by
    intro W pv h h32 hl
    have h1 := rRight_any (U.raw b) pv W (raw_in hb h h32) hl
    rw [hrau, hrkd, hrky, hrvl, hrct] at h1
    exact h1
  have hin0 : ∀ W pv, Rd W 32 pv (U.raw b).ps.length (ix (U.raw b).ps) → W32 (U.raw b).ps → UIn W (U.raw b) pv := fun W pv h h32 => raw_in hb h h32
  have hri : (q5 b).2.bad = 0 → ∀ W pv, Rd W 32 pv (Ids.read (q5 b).2.b 8).1.length (ix (Ids.read (q5 b).2.b 8).1) → Calls Try.prog 68 #[.agg #[.int .i64 ((q1 b).1 : Int), .int .u64 ((q2 b).1 : Int), pv, .int .i64 ((q3 b).1 : Int), .string (str (q4 b).1), .string (str (q5 b).1)]] W fun e w' => e = .returned (.bool (U.raw b).right) ∧ Below W.heap.size W w' := by
    intro h5 W pv h
    rw [hrps0 h5] at hri0
    exact hri0 W pv h hw32 hplen
  have hin : (q5 b).2.bad = 0 → ∀ W pv, Rd W 32 pv (Ids.read (q5 b).2.b 8).1.length (ix (Ids.read (q5 b).2.b 8).1) → UIn W (U.raw b) pv := by
    intro h5 W pv h
    rw [hrps0 h5] at hin0
    exact hin0 W pv h hw32
  have Hread0 := Lib.hid (show U.read b = if U.good b then U.raw b else U.zero from rfl)
  have Hraw := Lib.hid (And.intro hrau (And.intro hrct (And.intro hrkd (And.intro hrky hrvl))))
  clear hri0 hin0 hrps0 hw32 hplen hrau hrkd hrky hrvl hrct h5b k4 k5 k6
  generalize U.read b = ur at Hread0 ⊢
  generalize U.raw b = uw at hgood hri hin Hread0 Hraw
  generalize U.good b = gd at hgood Hread0 ⊢
  generalize Ids.read (q5 b).2.b 8 = rdp at hs8 hgood hri hin
  generalize (q5 b).2 = r5 at *
  generalize (q4 b).2 = r4 at *
  generalize (q3 b).2 = r3 at *
  generalize (q2 b).2 = r2 at *
  generalize (q1 b).2 = r1 at *
  generalize (q1 b).1 = a1 at *
  generalize (q2 b).1 = a2 at *
  generalize (q3 b).1 = a3 at *
  generalize (q4 b).1 = a4 at *
  generalize (q5 b).1 = a5 at *
  obtain ⟨pl, pe⟩ := rdp
  simp only at hs8 hgood hri hin
  have Hs1 := Lib.hid hs1
  have Hs2 := Lib.hid hs2
  have Hs3 := Lib.hid hs3
  have Hs4 := Lib.hid hs4
  have Hs5 := Lib.hid hs5
  have Hs8 := Lib.hid hs8
  have Hri := Lib.hid hri
  have Hin := Lib.hid hin
  have Hgo := Lib.hid hgood
  clear hs1 hs2 hs3 hs4 hs5 hs8 hri hin hgood k1 k2 k3
  go_enter Try.func70, Try.ntmps70
  go_upto_region 2 with fail
  have hz := blk_alloc (heap_alloc_new w (.cells zcs.toArray 105)) (.cells zcs.toArray 105)
  have he := alloc_at w (.cells zcs.toArray 105) (.cells zcs.toArray 105)
  have hB := below_two w (.cells zcs.toArray 105) (.cells zcs.toArray 105)
  have hsz : ((w.alloc (.cells zcs.toArray 105)).alloc (.cells zcs.toArray 105)).heap.size = w.heap.size + 2 := by rw [alloc_size, alloc_size]
  rw [show (w.alloc (.cells #[.int .i64 0, .int .u64 0, .slice none 0 0, .int .i64 0, .string ⟨#[]⟩, .string ⟨#[]⟩] 105)).alloc (.cells #[.int .i64 0, .int .u64 0, .slice none 0 0, .int .i64 0, .string ⟨#[]⟩, .string ⟨#[]⟩] 105) = (w.alloc (.cells zcs.toArray 105)).alloc (.cells zcs.toArray 105) from rfl]
  generalize (w.alloc (.cells zcs.toArray 105)).alloc (.cells zcs.toArray 105) = w0 at hz he hB hsz ⊢
  go_upto_region 3 with (go_at_call 108; refine (Hs1.out _).mono ?_; rintro e w1 ⟨rfl, hb1⟩)
  have R1 : RZ w (w1.alloc (.cells #[.string (str r1.b), .int .i64 (r1.bad : Int)] 149)) r1 w1.heap.size zcs := ⟨blk_alloc (blk_below hz hb1) _, blk_alloc (blk_below he hb1) _, heap_alloc_new _ _, by have := hb1.size; omega, (below_go hb1 hB).alloc (below_go hb1 hB).size _⟩
  generalize w1.alloc (.cells #[.string (str r1.b), .int .i64 (r1.bad : Int)] 149) = W1 at R1 ⊢
  generalize w1.heap.size = G at R1 ⊢
  clear hz he hB hsz hb1
  obtain ⟨y0, y1, y2, y3, y4, y5⟩ := ucells R1.ev
  have f1 := blk_frozen R1.ev 0
  have S3 := R1.set 0 (.int .i64 (a1 : Int))
  go_upto_region 4 with fail
  clear y0 y1 y2 y3 y4 y5 f1
  generalize W1.setCell ⟨w.heap.size + 1, 0, none⟩ (.int .i64 (a1 : Int)) = V3 at S3 ⊢
  obtain ⟨c0, c1, e0, e1⟩ := S3.c
  have HS3 := Lib.hid S3
  clear S3
  go_upto_region 5 with (go_at_call 107; refine (Hs2.out _).mono ?_; rintro e u3 ⟨rfl, hb3⟩; have T3 := HS3.out.below hb3; clear c0 c1 e0 e1; obtain ⟨c0, c1, e0, e1⟩ := T3.c)
  have R5 := T3.rset r2
  clear c0 c1 e0 e1 T3 HS3 hb3
  generalize (u3.setCell ⟨G, 0, none⟩ (.string (str r2.b))).setCell ⟨G, 1, none⟩ (.int .i64 (r2.bad : Int)) = W5 at R5 ⊢
  obtain ⟨y0, y1, y2, y3, y4, y5⟩ := ucells R5.ev
  have f1 := blk_frozen R5.ev 1
  have S5 := R5.set 1 (.int .u64 (a2 : Int))
  go_upto_region 6 with fail
  clear y0 y1 y2 y3 y4 y5 f1
  generalize W5.setCell ⟨w.heap.size + 1, 1, none⟩ (.int .u64 (a2 : Int)) = V5 at S5 ⊢
  obtain ⟨c0, c1, e0, e1⟩ := S5.c
  have HS5 := Lib.hid S5
  clear S5
  go_upto_region 7 with (go_at_call 108; refine (Hs3.out _).mono ?_; rintro e u5 ⟨rfl, hb5⟩; have T5 := HS5.out.below hb5; clear c0 c1 e0 e1; obtain ⟨c0, c1, e0, e1⟩ := T5.c)
  have R7 := T5.rset r3
  clear c0 c1 e0 e1 T5 HS5 hb5
  generalize (u5.setCell ⟨G, 0, none⟩ (.string (str r3.b))).setCell ⟨G, 1, none⟩ (.int .i64 (r3.bad : Int)) = W7 at R7 ⊢
  obtain ⟨y0, y1, y2, y3, y4, y5⟩ := ucells R7.ev
  have f1 := blk_frozen R7.ev 3
  have S7 := R7.set 3 (.int .i64 (a3 : Int))
  go_upto_region 8 with fail
  clear y0 y1 y2 y3 y4 y5 f1
  generalize W7.setCell ⟨w.heap.size + 1, 3, none⟩ (.int .i64 (a3 : Int)) = V7 at S7 ⊢
  obtain ⟨c0, c1, e0, e1⟩ := S7.c
  have HS7 := Lib.hid S7
  clear S7
  go_upto_region 9 with (go_at_call 109; refine (Hs4.out _).mono ?_; rintro e u7 ⟨rfl, hb7⟩; have T7 := HS7.out.below hb7; clear c0 c1 e0 e1; obtain ⟨c0, c1, e0, e1⟩ := T7.c)
  have R9 := T7.rset r4
  clear c0 c1 e0 e1 T7 HS7 hb7
  generalize (u7.setCell ⟨G, 0, none⟩ (.string (str r4.b))).setCell ⟨G, 1, none⟩ (.int .i64 (r4.bad : Int)) = W9 at R9 ⊢
  obtain ⟨y0, y1, y2, y3, y4, y5⟩ := ucells R9.ev
  have f1 := blk_frozen R9.ev 4
  have S9 := R9.set 4 (.string (str a4))
  go_upto_region 10 with fail
  clear y0 y1 y2 y3 y4 y5 f1
  generalize W9.setCell ⟨w.heap.size + 1, 4, none⟩ (.string (str a4)) = V9 at S9 ⊢
  obtain ⟨c0, c1, e0, e1⟩ := S9.c
  have HS9 := Lib.hid S9
  clear S9
  go_upto_region 11 with (go_at_call 109; refine (Hs5.out _).mono ?_; rintro e u9 ⟨rfl, hb9⟩; have T9 := HS9.out.below hb9; clear c0 c1 e0 e1; obtain ⟨c0, c1, e0, e1⟩ := T9.c)
  have R11 := T9.rset r5
  clear c0 c1 e0 e1 T9 HS9 hb9
  generalize (u9.setCell ⟨G, 0, none⟩ (.string (str r5.b))).setCell ⟨G, 1, none⟩ (.int .i64 (r5.bad : Int)) = W11 at R11 ⊢
  obtain ⟨y0, y1, y2, y3, y4, y5⟩ := ucells R11.ev
  have f1 := blk_frozen R11.ev 5
  have S11 := R11.set 5 (.string (str a5))
  go_upto_region 12 with fail
  clear y0 y1 y2 y3 y4 y5 f1
  generalize W11.setCell ⟨w.heap.size + 1, 5, none⟩ (.string (str a5)) = V11 at S11 ⊢
  obtain ⟨c0, c1, -, -⟩ := S11.c
  have HS := Lib.hid S11
  clear S11
  by_cases h5 : r5.bad = 0
  rotate_left
  · have d5 : ((r5.bad : Int) != 0) = true := by rw [bne_iff_ne]; omega
    have Hbad := Lib.hid (show gd = false by rw [Hgo.out, decide_eq_false h5]; rfl)
    have Hu := Lib.hid (show ur = U.zero by rw [Hread0.out, Hbad.out]; rfl)
    go_wp2_with (first
      | (refine Sha.wpList_store_all rfl 105 _ _ rfl w.heap.size zcs zcs rfl rfl u32 rfl (by kernel_rfl) _ HS.out.z ?_; intro w12 hz12 hg12))
    refine bodyPost_ret (v := .tuple #[.agg zcs.toArray, .bool false]) (Use.results_cell_tmp rfl _ _ w.heap.size zcs _ _ rfl rfl (range_all hz12.out) Try.underlying105 rfl (by kernel_rfl)) rfl ?_
    rw [Hu.out, Hbad.out]
    exact ⟨_, rfl, zero_in _, HS.out.b.grown hg12 HS.out.b.size (fun k hk => by injection hk with hk; omega)⟩
  have d5 : ((r5.bad : Int) != 0) = false := by rw [bne_eq_false_iff_eq]; omega
  have Hri5 := Lib.hid (Hri.out h5)
  have Hin5 := Lib.hid (Hin.out h5)
  have hgo := Hgo.out
  rw [decide_eq_true h5, Bool.true_and] at hgo
  have Hgo5 := Lib.hid hgo
  clear Hri Hin Hgo hgo h5
  go_upto_region 15 with (go_at_call 130; refine (Hs8.out _).mono ?_; rintro e u12 ⟨pv, rfl, hop, hb12⟩; have hrp := Rd.of_own hop; obtain ⟨Ap, cp, rfl, -, -, -⟩ := hrp.slice_)
  have S12 := HS.out.below hb12
  have hnb : ∀ k, k = w.heap.size + 1 → (Value.slice Ap pl.length cp).ownBlock ≠ some k := fun k hk e => by have h1 := own_base hop k e; have h2 := HS.out.lG; have h3 := blk_lt HS.out.rd; omega
  have Hnz := Lib.hid (show ∀ k, k = w.heap.size → (Value.slice Ap pl.length cp).ownBlock ≠ some k from fun k hk e => by have h1 := own_base hop k e; have h2 := HS.out.lG; have h3 := blk_lt HS.out.rd; omega)
  clear hop
  obtain ⟨y0, y1, y2, y3, y4, y5⟩ := ucells S12.ev
  have f2 := blk_frozen S12.ev 2
  have R16 := S12.set 2 (.slice Ap pl.length cp)
  have Hrp := Lib.hid (hrp.grown (grown_setCell u12 (w.heap.size + 1) 2 (.slice Ap pl.length cp)) (fun k hk => by injection hk with hk; exact hnb k hk.symm))
  go_upto_region 16 with fail
  clear y0 y1 y2 y3 y4 y5 f2 c0 c1 hrp hnb S12
  generalize u12.setCell ⟨w.heap.size + 1, 2, none⟩ (.slice Ap pl.length cp) = W16 at R16 Hrp ⊢
  have HR := Lib.hid R16
  clear R16 HS hb12
  by_cases h2 : pe = 0
  rotate_left
  · have d2 : ((pe : Int) != 0) = true := by rw [bne_iff_ne]; omega
    have Hbad := Lib.hid (show gd = false by rw [Hgo5.out, decide_eq_false h2]; rfl)
    have Hu := Lib.hid (show ur = U.zero by rw [Hread0.out, Hbad.out]; rfl)
    go_wp2_with (first
      | (refine Sha.wpList_store_all rfl 105 _ _ rfl w.heap.size zcs zcs rfl rfl u32 rfl (by kernel_rfl) _ HR.out.z ?_; intro w12 hz12 hg12))
    refine bodyPost_ret (v := .tuple #[.agg zcs.toArray, .bool false]) (Use.results_cell_tmp rfl _ _ w.heap.size zcs _ _ rfl rfl (range_all hz12.out) Try.underlying105 rfl (by kernel_rfl)) rfl ?_
    rw [Hu.out, Hbad.out]
    exact ⟨_, rfl, zero_in _, HR.out.b.grown hg12 HR.out.b.size (fun k hk => by injection hk with hk; omega)⟩
  subst h2
  obtain ⟨y0, y1, y2, y3, y4, y5⟩ := ucells HR.out.ev
  cases hrt : uw.right with
  | false =>
    rw [hrt] at Hri5
    have Hbad := Lib.hid (show gd = false by rw [Hgo5.out, hrt]; simp)
    have Hu := Lib.hid (show ur = U.zero by rw [Hread0.out, Hbad.out]; rfl)
    go_wp2_with (first
      | (refine Sha.wpList_store_all rfl 105 _ _ rfl w.heap.size zcs zcs rfl rfl u32 rfl (by kernel_rfl) _ HR8.out.z ?_; intro w12 hz12 hg12)
      | (go_at_call 68; refine (Hri5.out _ _ Hrp.out).mono ?_; rintro e w8 ⟨rfl, hb8⟩; have HR8 := Lib.hid (HR.out.below hb8)))
    refine bodyPost_ret (v := .tuple #[.agg zcs.toArray, .bool false]) (Use.results_cell_tmp rfl _ _ w.heap.size zcs _ _ rfl rfl (range_all hz12.out) Try.underlying105 rfl (by kernel_rfl)) rfl ?_
    rw [Hu.out, Hbad.out]
    exact ⟨_, rfl, zero_in _, HR8.out.b.grown hg12 HR8.out.b.size (fun k hk => by injection hk with hk; omega)⟩
  | true =>
    rw [hrt] at Hri5
    have Hok := Lib.hid (show gd = true by rw [Hgo5.out, hrt]; rfl)
    have Hu := Lib.hid (show ur = uw by rw [Hread0.out, Hok.out]; rfl)
    clear hrt
    obtain ⟨cs, hcs⟩ : ∃ cs : List Value, cs = [.int .i64 (a1 : Int), .int .u64 (a2 : Int), .slice Ap pl.length cp, .int .i64 (a3 : Int), .string (str a4), .string (str a5)] := ⟨_, rfl⟩
    have Hcs := Lib.hid hcs
    have Hone := Lib.hid (show ∀ v ∈ cs, v.oneCell' = true by rw [hcs]; intro v hv; simp at hv; rcases hv with rfl | rfl | rfl | rfl | rfl | rfl <;> rfl)
    have Hlen := Lib.hid (show cs.length = zcs.length by rw [hcs]; rfl)
    have Hinf := Lib.hid (show (Try.prog.info? 105).map (·.size) = some cs.length by rw [hcs]; exact infoRU)
    clear hcs
    go_wp2_with (first
      | (refine Sha.wpList_store_all rfl 105 _ _ rfl w.heap.size cs zcs rfl (by rw [Hcs.out]; rfl) Hone.out Hlen.out Hinf.out _ HR8.out.z ?_; intro w12 hz12 hg12)
      | (go_at_call 68; refine (Hri5.out _ _ Hrp.out).mono ?_; rintro e w8 ⟨rfl, hb8⟩; have HR8 := Lib.hid (HR.out.below hb8); have Hrp8 := Lib.hid (Hrp.out.below hb8); clear y0 y1 y2 y3 y4 y5; obtain ⟨y0, y1, y2, y3, y4, y5⟩ := ucells HR8.out.ev))
    have Hrp3 := Rd.grown Hrp8.out hg12 (fun k hk e => by injection hk with hk; exact Hnz.out k hk.symm e)
    refine bodyPost_ret (v := .tuple #[.agg cs.toArray, .bool true]) (Use.results_cell_tmp rfl _ _ w.heap.size cs _ _ rfl rfl (range_all hz12.out) Try.underlying105 rfl Hinf.out) rfl ?_
    obtain ⟨e1, e2, e3, e4, e5⟩ := Hraw.out
    rw [Hu.out, Hok.out, Hcs.out, e1, e2, e3, e4, e5]
    exact ⟨_, rfl, Hin5.out _ _ Hrp3, HR8.out.b.grown hg12 HR8.out.b.size (fun k hk => by injection hk with hk; omega)⟩
end Go.Proofs.Ytcjabfdjngekfaa.Upd
