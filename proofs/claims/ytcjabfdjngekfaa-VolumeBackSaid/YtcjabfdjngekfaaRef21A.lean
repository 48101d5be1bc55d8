/- ref21: a volume that is right. -/
import Derived.Test.YtcjabfdjngekfaaVolKin
import Derived.Test.YtcjabfdjngekfaaRef02O
set_option linter.unusedVariables false
set_option linter.unusedSimpArgs false
namespace Go.Proofs.Ytcjabfdjngekfaa.Vol
open Go.RowKit Go.Proofs.Ytcjabfdjngekfaa.Wd

/-- a reference's volume that came in -/
structure RIn (v : V) : Prop where
  bd : v.bd.length = 32
  ix : I64 v.ix
  dt : I64 v.dt
  mr : I64 v.mr
  lg : I64 v.lg
  pc : v.pc.length ≤ 140737488355328
theorem rcells_get (v : V) (h : v.bd.length = 32) (j : Nat) : (rcells v)[32 + j]? = [Value.int .i64 v.ix, .int .i64 v.dt, .int .i64 v.mr, .int .i64 v.lg, .string (str v.pc)][j]? := by
  rw [rcells, List.getElem?_append_right (by rw [bs_length]; omega), bs_length, h, Nat.add_sub_cancel_left]
theorem ref_cells {W : World} {g : Nat} {v : V} {t : TypeId} (h : v.bd.length = 32) (hg : W.heap[g]? = some (.cells (rcells v).toArray t (0, 0))) :
    W.cell? ⟨g, 32, none⟩ = some (.int .i64 v.ix) ∧ W.cell? ⟨g, 33, none⟩ = some (.int .i64 v.dt) ∧ W.cell? ⟨g, 34, none⟩ = some (.int .i64 v.mr) ∧ W.cell? ⟨g, 35, none⟩ = some (.int .i64 v.lg) ∧ W.cell? ⟨g, 36, none⟩ = some (.string (str v.pc)) := by
  have hc : ∀ j, W.cell? ⟨g, 32 + j, none⟩ = [Value.int .i64 v.ix, .int .i64 v.dt, .int .i64 v.mr, .int .i64 v.lg, .string (str v.pc)][j]? := by
    intro j; rw [blk_cell hg]; simp only [List.getElem?_toArray]; exact rcells_get v h j
  exact ⟨hc 0, hc 1, hc 2, hc 3, hc 4⟩
theorem shard_max (lg dt : Int) (h0 : 0 ≤ lg) (h1 : 1 ≤ dt) : shardN lg dt = max 1 ((lg + dt - 1) / dt) := by
  unfold shardN
  rw [if_neg (by omega)]
  have e : (lg + dt - 1) / dt = (lg - 1) / dt + 1 := by rw [show lg + dt - 1 = (lg - 1) + dt by omega, Int.add_ediv_of_dvd_right (Int.dvd_refl dt), Int.ediv_self (by omega)]
  by_cases h : lg = 0
  · subst h
    rw [if_pos rfl, e]
    have : (0 - 1 : Int) / dt < 0 := Int.ediv_neg_of_neg_of_pos (by omega) (by omega)
    omega
  · rw [if_neg h, e]
    have := Int.ediv_nonneg (show 0 ≤ lg - 1 by omega) (show 0 ≤ dt by omega)
    omega
set_option maxRecDepth 100000 in
set_option maxHeartbeats 4000000 in
theorem rright_any (v : V) (w : World) (hv : RIn v) : Calls Try.prog 48 #[.agg (rcells v).toArray] w fun e w' => e = .returned (.bool v.right) ∧ Below w.heap.size w w' := by
  obtain ⟨hbd, hix, hdt, hmr, hlg, hpc⟩ := hv
  have hvc := ref_cells (W := w.alloc (.cells (rcells v).toArray 71)) (g := w.heap.size) hbd (heap_alloc_new _ _)
  obtain ⟨L, hL⟩ : ∃ L, L = rcells v := ⟨_, rfl⟩
  rw [← hL] at hvc ⊢
  have Ho := v.ok
  obtain ⟨bd, ix, dt, mr, lg, pc⟩ := v
  simp only at hvc hix hdt hmr hlg hpc
  obtain ⟨x1, x2⟩ := hix
  obtain ⟨x3, x4⟩ := hdt
  obtain ⟨x5, x6⟩ := hmr
  obtain ⟨x7, x8⟩ := hlg
  obtain ⟨c32, c33, c34, c35, c36⟩ := hvc
  generalize hr : V.right ⟨bd, ix, dt, mr, lg, pc⟩ = r at Ho ⊢
  have Hf : ∀ P : Prop, (V.Ok ⟨bd, ix, dt, mr, lg, pc⟩ → P) → ¬ P → r = false := by
    intro P h1 h2
    cases r
    · rfl
    · exact absurd (h1 (Ho.1 rfl)) h2
  have HF := Lib.hid Hf
  have HO := Lib.hid Ho
  clear hL hbd hr Hf Ho
  have hba : Below w.heap.size w (w.alloc (.cells L.toArray 71)) := (Below.refl _ _).alloc (Nat.le_refl _) _
  by_cases g0 : 1 ≤ dt
  rotate_left
  · have Hr := Lib.hid (HF.out (1 ≤ dt) (fun h => by have := h.d1; simp only at this; omega) g0)
    have gd : decide (1 ≤ dt) = false := decide_eq_false g0
    clear HF HO
    go_enter Try.func48, Try.ntmps48
    go_wp2_with fail
    (refine Ord.wp_region_ord [(false, 0), (false, 1), (false, 2), (false, 3), (false, 4), (false, 5), (false, 6), (false, 7), (false, 8), (false, 9), (false, 10), (false, 11), (false, 12), (false, 13), (false, 14), (false, 15), (false, 16), (false, 17), (false, 18), (false, 19), (false, 20), (false, 21), (false, 22), (false, 23), (false, 24), (false, 25), (false, 26), (false, 27), (false, 28), (false, 29), (false, 30), (false, 31), (false, 32), (false, 33), (false, 34), (false, 35), (false, 36), (false, 37), (false, 38), (false, 39), (false, 40), (false, 41), (false, 42), (false, 43), (false, 44), (false, 45), (false, 46), (false, 47), (false, 48), (false, 49), (false, 50), (false, 51), (false, 52), (false, 53), (false, 54), (false, 55), (false, 56), (false, 57), (false, 58), (false, 59), (false, 60), (false, 61), (false, 62)] (fun w' => (w'.cell? ⟨w.heap.size, 32, none⟩ = some (.int .i64 ix) ∧ w'.cell? ⟨w.heap.size, 33, none⟩ = some (.int .i64 dt) ∧ w'.cell? ⟨w.heap.size, 34, none⟩ = some (.int .i64 mr) ∧ w'.cell? ⟨w.heap.size, 35, none⟩ = some (.int .i64 lg) ∧ w'.cell? ⟨w.heap.size, 36, none⟩ = some (.string (str pc)))) (by kernel_rfl) (by kernel_rfl) (by kernel_rfl) (by kernel_rfl) (by exact ⟨c32, c33, c34, c35, c36⟩) ?_; simp only [Ord.ordOps, List.filterMap_cons, List.filterMap_nil, List.getElem?_toArray, List.getElem?_cons_succ, List.getElem?_cons_zero, Option.map_some]; repeat (first | (refine Ord.wpOrd_skip ?_ ?_; (focus (go_simp; (try (intro h; cases h)); done)); simp only [Act.put, List.setIfInBounds_toArray, List.set_cons_zero, List.set_cons_succ]) | (refine Ord.wpOrd_take (v := ?_) ?_ ?_ ?_; rotate_left; (focus (go_simp; done)); (focus (intro w' hSw; (try dsimp only at hSw); go_simp; (try with_reducible rfl); done)); simp only [Act.put, List.setIfInBounds_toArray, List.set_cons_zero, List.set_cons_succ])))
    refine Ord.wpOrd_nil ?_
    go_wp2
    go_ret
    exact ⟨ret_b Hr.out.symm, hba.drew⟩
  by_cases g1 : dt ≤ 255
  rotate_left
  · have Hr := Lib.hid (HF.out (dt ≤ 255) (fun h => by have := h.d2; simp only at this; omega) g1)
    have gd : decide (dt ≤ 255) = false := decide_eq_false g1
    clear HF HO
    go_enter Try.func48, Try.ntmps48
    go_wp2_with fail
    (refine Ord.wp_region_ord [(false, 0), (false, 1), (false, 2), (false, 3), (false, 4), (false, 5), (false, 6), (false, 7), (false, 8), (false, 9), (false, 10), (false, 11), (false, 12), (false, 13), (false, 14), (false, 15), (false, 16), (false, 17), (false, 18), (false, 19), (false, 20), (false, 21), (false, 22), (false, 23), (false, 24), (false, 25), (false, 26), (false, 27), (false, 28), (false, 29), (false, 30), (false, 31), (false, 32), (false, 33), (false, 34), (false, 35), (false, 36), (false, 37), (false, 38), (false, 39), (false, 40), (false, 41), (false, 42), (false, 43), (false, 44), (false, 45), (false, 46), (false, 47), (false, 48), (false, 49), (false, 50), (false, 51), (false, 52), (false, 53), (false, 54), (false, 55), (false, 56), (false, 57), (false, 58), (false, 59), (false, 60), (false, 61), (false, 62)] (fun w' => (w'.cell? ⟨w.heap.size, 32, none⟩ = some (.int .i64 ix) ∧ w'.cell? ⟨w.heap.size, 33, none⟩ = some (.int .i64 dt) ∧ w'.cell? ⟨w.heap.size, 34, none⟩ = some (.int .i64 mr) ∧ w'.cell? ⟨w.heap.size, 35, none⟩ = some (.int .i64 lg) ∧ w'.cell? ⟨w.heap.size, 36, none⟩ = some (.string (str pc)))) (by kernel_rfl) (by kernel_rfl) (by kernel_rfl) (by kernel_rfl) (by exact ⟨c32, c33, c34, c35, c36⟩) ?_; simp only [Ord.ordOps, List.filterMap_cons, List.filterMap_nil, List.getElem?_toArray, List.getElem?_cons_succ, List.getElem?_cons_zero, Option.map_some]; repeat (first | (refine Ord.wpOrd_skip ?_ ?_; (focus (go_simp; (try (intro h; cases h)); done)); simp only [Act.put, List.setIfInBounds_toArray, List.set_cons_zero, List.set_cons_succ]) | (refine Ord.wpOrd_take (v := ?_) ?_ ?_ ?_; rotate_left; (focus (go_simp; done)); (focus (intro w' hSw; (try dsimp only at hSw); go_simp; (try with_reducible rfl); done)); simp only [Act.put, List.setIfInBounds_toArray, List.set_cons_zero, List.set_cons_succ])))
    refine Ord.wpOrd_nil ?_
    go_wp2
    go_ret
    exact ⟨ret_b Hr.out.symm, hba.drew⟩
  have s10 : IntKind.i64.wrap (255 - dt) = 255 - dt := by rw [IntKind.wrap_i64]; omega
  by_cases g2 : 0 ≤ mr
  rotate_left
  · have Hr := Lib.hid (HF.out (0 ≤ mr) (fun h => by have := h.m1; simp only at this; omega) g2)
    have gd : decide (0 ≤ mr) = false := decide_eq_false g2
    clear HF HO
    go_enter Try.func48, Try.ntmps48
    go_wp2_with fail
    (refine Ord.wp_region_ord [(false, 0), (false, 1), (false, 2), (false, 3), (false, 4), (false, 5), (false, 6), (false, 7), (false, 8), (false, 9), (false, 10), (false, 11), (false, 12), (false, 13), (false, 14), (false, 15), (false, 16), (false, 17), (false, 18), (false, 19), (false, 20), (false, 21), (false, 22), (false, 23), (false, 24), (false, 25), (false, 26), (false, 27), (false, 28), (false, 29), (false, 30), (false, 31), (false, 32), (false, 33), (false, 34), (false, 35), (false, 36), (false, 37), (false, 38), (false, 39), (false, 40), (false, 41), (false, 42), (false, 43), (false, 44), (false, 45), (false, 46), (false, 47), (false, 48), (false, 49), (false, 50), (false, 51), (false, 52), (false, 53), (false, 54), (false, 55), (false, 56), (false, 57), (false, 58), (false, 59), (false, 60), (false, 61), (false, 62)] (fun w' => (w'.cell? ⟨w.heap.size, 32, none⟩ = some (.int .i64 ix) ∧ w'.cell? ⟨w.heap.size, 33, none⟩ = some (.int .i64 dt) ∧ w'.cell? ⟨w.heap.size, 34, none⟩ = some (.int .i64 mr) ∧ w'.cell? ⟨w.heap.size, 35, none⟩ = some (.int .i64 lg) ∧ w'.cell? ⟨w.heap.size, 36, none⟩ = some (.string (str pc)))) (by kernel_rfl) (by kernel_rfl) (by kernel_rfl) (by kernel_rfl) (by exact ⟨c32, c33, c34, c35, c36⟩) ?_; simp only [Ord.ordOps, List.filterMap_cons, List.filterMap_nil, List.getElem?_toArray, List.getElem?_cons_succ, List.getElem?_cons_zero, Option.map_some]; repeat (first | (refine Ord.wpOrd_skip ?_ ?_; (focus (go_simp; (try (intro h; cases h)); done)); simp only [Act.put, List.setIfInBounds_toArray, List.set_cons_zero, List.set_cons_succ]) | (refine Ord.wpOrd_take (v := ?_) ?_ ?_ ?_; rotate_left; (focus (go_simp; done)); (focus (intro w' hSw; (try dsimp only at hSw); go_simp; (try with_reducible rfl); done)); simp only [Act.put, List.setIfInBounds_toArray, List.set_cons_zero, List.set_cons_succ])))
    refine Ord.wpOrd_nil ?_
    go_wp2
    go_ret
    exact ⟨ret_b Hr.out.symm, hba.drew⟩
  by_cases g3 : mr ≤ 255 - dt
  rotate_left
  · have Hr := Lib.hid (HF.out (mr ≤ 255 - dt) (fun h => by have := h.m2; simp only at this; omega) g3)
    have gd : decide (mr ≤ 255 - dt) = false := decide_eq_false g3
    clear HF HO
    go_enter Try.func48, Try.ntmps48
    go_wp2_with fail
    (refine Ord.wp_region_ord [(false, 0), (false, 1), (false, 2), (false, 3), (false, 4), (false, 5), (false, 6), (false, 7), (false, 8), (false, 9), (false, 10), (false, 11), (false, 12), (false, 13), (false, 14), (false, 15), (false, 16), (false, 17), (false, 18), (false, 19), (false, 20), (false, 21), (false, 22), (false, 23), (false, 24), (false, 25), (false, 26), (false, 27), (false, 28), (false, 29), (false, 30), (false, 31), (false, 32), (false, 33), (false, 34), (false, 35), (false, 36), (false, 37), (false, 38), (false, 39), (false, 40), (false, 41), (false, 42), (false, 43), (false, 44), (false, 45), (false, 46), (false, 47), (false, 48), (false, 49), (false, 50), (false, 51), (false, 52), (false, 53), (false, 54), (false, 55), (false, 56), (false, 57), (false, 58), (false, 59), (false, 60), (false, 61), (false, 62)] (fun w' => (w'.cell? ⟨w.heap.size, 32, none⟩ = some (.int .i64 ix) ∧ w'.cell? ⟨w.heap.size, 33, none⟩ = some (.int .i64 dt) ∧ w'.cell? ⟨w.heap.size, 34, none⟩ = some (.int .i64 mr) ∧ w'.cell? ⟨w.heap.size, 35, none⟩ = some (.int .i64 lg) ∧ w'.cell? ⟨w.heap.size, 36, none⟩ = some (.string (str pc)))) (by kernel_rfl) (by kernel_rfl) (by kernel_rfl) (by kernel_rfl) (by exact ⟨c32, c33, c34, c35, c36⟩) ?_; simp only [Ord.ordOps, List.filterMap_cons, List.filterMap_nil, List.getElem?_toArray, List.getElem?_cons_succ, List.getElem?_cons_zero, Option.map_some]; repeat (first | (refine Ord.wpOrd_skip ?_ ?_; (focus (go_simp; (try (intro h; cases h)); done)); simp only [Act.put, List.setIfInBounds_toArray, List.set_cons_zero, List.set_cons_succ]) | (refine Ord.wpOrd_take (v := ?_) ?_ ?_ ?_; rotate_left; (focus (go_simp; done)); (focus (intro w' hSw; (try dsimp only at hSw); go_simp; (try with_reducible rfl); done)); simp only [Act.put, List.setIfInBounds_toArray, List.set_cons_zero, List.set_cons_succ])))
    refine Ord.wpOrd_nil ?_
    go_wp2
    go_ret
    exact ⟨ret_b Hr.out.symm, hba.drew⟩
  have s30 : IntKind.i64.wrap (dt + mr) = dt + mr := by rw [IntKind.wrap_i64]; omega
  by_cases g4 : 0 ≤ ix
  rotate_left
  · have Hr := Lib.hid (HF.out (0 ≤ ix) (fun h => by have := h.i1; simp only at this; omega) g4)
    have gd : decide (0 ≤ ix) = false := decide_eq_false g4
    clear HF HO
    go_enter Try.func48, Try.ntmps48
    go_wp2_with fail
    (refine Ord.wp_region_ord [(false, 0), (false, 1), (false, 2), (false, 3), (false, 4), (false, 5), (false, 6), (false, 7), (false, 8), (false, 9), (false, 10), (false, 11), (false, 12), (false, 13), (false, 14), (false, 15), (false, 16), (false, 17), (false, 18), (false, 19), (false, 20), (false, 21), (false, 22), (false, 23), (false, 24), (false, 25), (false, 26), (false, 27), (false, 28), (false, 29), (false, 30), (false, 31), (false, 32), (false, 33), (false, 34), (false, 35), (false, 36), (false, 37), (false, 38), (false, 39), (false, 40), (false, 41), (false, 42), (false, 43), (false, 44), (false, 45), (false, 46), (false, 47), (false, 48), (false, 49), (false, 50), (false, 51), (false, 52), (false, 53), (false, 54), (false, 55), (false, 56), (false, 57), (false, 58), (false, 59), (false, 60), (false, 61), (false, 62)] (fun w' => (w'.cell? ⟨w.heap.size, 32, none⟩ = some (.int .i64 ix) ∧ w'.cell? ⟨w.heap.size, 33, none⟩ = some (.int .i64 dt) ∧ w'.cell? ⟨w.heap.size, 34, none⟩ = some (.int .i64 mr) ∧ w'.cell? ⟨w.heap.size, 35, none⟩ = some (.int .i64 lg) ∧ w'.cell? ⟨w.heap.size, 36, none⟩ = some (.string (str pc)))) (by kernel_rfl) (by kernel_rfl) (by kernel_rfl) (by kernel_rfl) (by exact ⟨c32, c33, c34, c35, c36⟩) ?_; simp only [Ord.ordOps, List.filterMap_cons, List.filterMap_nil, List.getElem?_toArray, List.getElem?_cons_succ, List.getElem?_cons_zero, Option.map_some]; repeat (first | (refine Ord.wpOrd_skip ?_ ?_; (focus (go_simp; (try (intro h; cases h)); done)); simp only [Act.put, List.setIfInBounds_toArray, List.set_cons_zero, List.set_cons_succ]) | (refine Ord.wpOrd_take (v := ?_) ?_ ?_ ?_; rotate_left; (focus (go_simp; done)); (focus (intro w' hSw; (try dsimp only at hSw); go_simp; (try with_reducible rfl); done)); simp only [Act.put, List.setIfInBounds_toArray, List.set_cons_zero, List.set_cons_succ])))
    refine Ord.wpOrd_nil ?_
    go_wp2
    go_ret
    exact ⟨ret_b Hr.out.symm, hba.drew⟩
  by_cases g5 : ix < dt + mr
  rotate_left
  · have Hr := Lib.hid (HF.out (ix < dt + mr) (fun h => by have := h.i2; simp only at this; omega) g5)
    have gd : decide (ix < dt + mr) = false := decide_eq_false g5
    clear HF HO
    go_enter Try.func48, Try.ntmps48
    go_wp2_with fail
    (refine Ord.wp_region_ord [(false, 0), (false, 1), (false, 2), (false, 3), (false, 4), (false, 5), (false, 6), (false, 7), (false, 8), (false, 9), (false, 10), (false, 11), (false, 12), (false, 13), (false, 14), (false, 15), (false, 16), (false, 17), (false, 18), (false, 19), (false, 20), (false, 21), (false, 22), (false, 23), (false, 24), (false, 25), (false, 26), (false, 27), (false, 28), (false, 29), (false, 30), (false, 31), (false, 32), (false, 33), (false, 34), (false, 35), (false, 36), (false, 37), (false, 38), (false, 39), (false, 40), (false, 41), (false, 42), (false, 43), (false, 44), (false, 45), (false, 46), (false, 47), (false, 48), (false, 49), (false, 50), (false, 51), (false, 52), (false, 53), (false, 54), (false, 55), (false, 56), (false, 57), (false, 58), (false, 59), (false, 60), (false, 61), (false, 62)] (fun w' => (w'.cell? ⟨w.heap.size, 32, none⟩ = some (.int .i64 ix) ∧ w'.cell? ⟨w.heap.size, 33, none⟩ = some (.int .i64 dt) ∧ w'.cell? ⟨w.heap.size, 34, none⟩ = some (.int .i64 mr) ∧ w'.cell? ⟨w.heap.size, 35, none⟩ = some (.int .i64 lg) ∧ w'.cell? ⟨w.heap.size, 36, none⟩ = some (.string (str pc)))) (by kernel_rfl) (by kernel_rfl) (by kernel_rfl) (by kernel_rfl) (by exact ⟨c32, c33, c34, c35, c36⟩) ?_; simp only [Ord.ordOps, List.filterMap_cons, List.filterMap_nil, List.getElem?_toArray, List.getElem?_cons_succ, List.getElem?_cons_zero, Option.map_some]; repeat (first | (refine Ord.wpOrd_skip ?_ ?_; (focus (go_simp; (try (intro h; cases h)); done)); simp only [Act.put, List.setIfInBounds_toArray, List.set_cons_zero, List.set_cons_succ]) | (refine Ord.wpOrd_take (v := ?_) ?_ ?_ ?_; rotate_left; (focus (go_simp; done)); (focus (intro w' hSw; (try dsimp only at hSw); go_simp; (try with_reducible rfl); done)); simp only [Act.put, List.setIfInBounds_toArray, List.set_cons_zero, List.set_cons_succ])))
    refine Ord.wpOrd_nil ?_
    go_wp2
    go_ret
    exact ⟨ret_b Hr.out.symm, hba.drew⟩
  by_cases g6 : 0 ≤ lg
  rotate_left
  · have Hr := Lib.hid (HF.out (0 ≤ lg) (fun h => by have := h.l1; simp only at this; omega) g6)
    have gd : decide (0 ≤ lg) = false := decide_eq_false g6
    clear HF HO
    go_enter Try.func48, Try.ntmps48
    go_wp2_with fail
    (refine Ord.wp_region_ord [(false, 0), (false, 1), (false, 2), (false, 3), (false, 4), (false, 5), (false, 6), (false, 7), (false, 8), (false, 9), (false, 10), (false, 11), (false, 12), (false, 13), (false, 14), (false, 15), (false, 16), (false, 17), (false, 18), (false, 19), (false, 20), (false, 21), (false, 22), (false, 23), (false, 24), (false, 25), (false, 26), (false, 27), (false, 28), (false, 29), (false, 30), (false, 31), (false, 32), (false, 33), (false, 34), (false, 35), (false, 36), (false, 37), (false, 38), (false, 39), (false, 40), (false, 41), (false, 42), (false, 43), (false, 44), (false, 45), (false, 46), (false, 47), (false, 48), (false, 49), (false, 50), (false, 51), (false, 52), (false, 53), (false, 54), (false, 55), (false, 56), (false, 57), (false, 58), (false, 59), (false, 60), (false, 61), (false, 62)] (fun w' => (w'.cell? ⟨w.heap.size, 32, none⟩ = some (.int .i64 ix) ∧ w'.cell? ⟨w.heap.size, 33, none⟩ = some (.int .i64 dt) ∧ w'.cell? ⟨w.heap.size, 34, none⟩ = some (.int .i64 mr) ∧ w'.cell? ⟨w.heap.size, 35, none⟩ = some (.int .i64 lg) ∧ w'.cell? ⟨w.heap.size, 36, none⟩ = some (.string (str pc)))) (by kernel_rfl) (by kernel_rfl) (by kernel_rfl) (by kernel_rfl) (by exact ⟨c32, c33, c34, c35, c36⟩) ?_; simp only [Ord.ordOps, List.filterMap_cons, List.filterMap_nil, List.getElem?_toArray, List.getElem?_cons_succ, List.getElem?_cons_zero, Option.map_some]; repeat (first | (refine Ord.wpOrd_skip ?_ ?_; (focus (go_simp; (try (intro h; cases h)); done)); simp only [Act.put, List.setIfInBounds_toArray, List.set_cons_zero, List.set_cons_succ]) | (refine Ord.wpOrd_take (v := ?_) ?_ ?_ ?_; rotate_left; (focus (go_simp; done)); (focus (intro w' hSw; (try dsimp only at hSw); go_simp; (try with_reducible rfl); done)); simp only [Act.put, List.setIfInBounds_toArray, List.set_cons_zero, List.set_cons_succ])))
    refine Ord.wpOrd_nil ?_
    go_wp2
    go_ret
    exact ⟨ret_b Hr.out.symm, hba.drew⟩
  by_cases g7 : lg ≤ 65536
  rotate_left
  · have Hr := Lib.hid (HF.out (lg ≤ 65536) (fun h => by have := h.l2; simp only at this; omega) g7)
    have gd : decide (lg ≤ 65536) = false := decide_eq_false g7
    clear HF HO
    go_enter Try.func48, Try.ntmps48
    go_wp2_with fail
    (refine Ord.wp_region_ord [(false, 0), (false, 1), (false, 2), (false, 3), (false, 4), (false, 5), (false, 6), (false, 7), (false, 8), (false, 9), (false, 10), (false, 11), (false, 12), (false, 13), (false, 14), (false, 15), (false, 16), (false, 17), (false, 18), (false, 19), (false, 20), (false, 21), (false, 22), (false, 23), (false, 24), (false, 25), (false, 26), (false, 27), (false, 28), (false, 29), (false, 30), (false, 31), (false, 32), (false, 33), (false, 34), (false, 35), (false, 36), (false, 37), (false, 38), (false, 39), (false, 40), (false, 41), (false, 42), (false, 43), (false, 44), (false, 45), (false, 46), (false, 47), (false, 48), (false, 49), (false, 50), (false, 51), (false, 52), (false, 53), (false, 54), (false, 55), (false, 56), (false, 57), (false, 58), (false, 59), (false, 60), (false, 61), (false, 62)] (fun w' => (w'.cell? ⟨w.heap.size, 32, none⟩ = some (.int .i64 ix) ∧ w'.cell? ⟨w.heap.size, 33, none⟩ = some (.int .i64 dt) ∧ w'.cell? ⟨w.heap.size, 34, none⟩ = some (.int .i64 mr) ∧ w'.cell? ⟨w.heap.size, 35, none⟩ = some (.int .i64 lg) ∧ w'.cell? ⟨w.heap.size, 36, none⟩ = some (.string (str pc)))) (by kernel_rfl) (by kernel_rfl) (by kernel_rfl) (by kernel_rfl) (by exact ⟨c32, c33, c34, c35, c36⟩) ?_; simp only [Ord.ordOps, List.filterMap_cons, List.filterMap_nil, List.getElem?_toArray, List.getElem?_cons_succ, List.getElem?_cons_zero, Option.map_some]; repeat (first | (refine Ord.wpOrd_skip ?_ ?_; (focus (go_simp; (try (intro h; cases h)); done)); simp only [Act.put, List.setIfInBounds_toArray, List.set_cons_zero, List.set_cons_succ]) | (refine Ord.wpOrd_take (v := ?_) ?_ ?_ ?_; rotate_left; (focus (go_simp; done)); (focus (intro w' hSw; (try dsimp only at hSw); go_simp; (try with_reducible rfl); done)); simp only [Act.put, List.setIfInBounds_toArray, List.set_cons_zero, List.set_cons_succ])))
    refine Ord.wpOrd_nil ?_
    go_wp2
    go_ret
    exact ⟨ret_b Hr.out.symm, hba.drew⟩
  obtain ⟨q, hq⟩ : ∃ q, q = (lg + dt - 1) / dt := ⟨_, rfl⟩
  have hsm := shard_max lg dt g6 g0
  rw [← hq] at hsm
  have q0 : 0 ≤ q := by rw [hq]; exact Int.ediv_nonneg (by omega) (by omega)
  have q1 : q ≤ lg + dt - 1 := by rw [hq]; exact Int.ediv_le_self _ (by omega)
  have q2 : (lg + dt - 1).tdiv dt = q := by rw [hq]; exact Int.tdiv_eq_ediv_of_nonneg (by omega)
  have q3 : (lg + dt - 1) / dt = q := hq.symm
  have q4 : IntKind.i64.wrap q = q := by rw [IntKind.wrap_i64]; omega
  have t1 : IntKind.i64.wrap (lg + dt) = lg + dt := by rw [IntKind.wrap_i64]; omega
  have t2 : IntKind.i64.wrap (lg + dt - 1) = lg + dt - 1 := by rw [IntKind.wrap_i64]; omega
  have q8 : ¬ dt = 0 := by omega
  have q9 : (dt == 0) = false := by simpa using q8
  have hrr : r = decide ((pc.length : Int) = max 1 q) := by
    rw [Bool.eq_iff_iff, HO.out, decide_eq_true_eq]
    constructor
    · intro h; have := h.p; simp only at this; rw [this, hsm]
    · intro h; exact ⟨g0, g1, g2, g3, g4, by simp only; omega, g6, g7, by simp only; rw [h, hsm]⟩
  have Hr := Lib.hid hrr
  clear HF HO hq hsm hrr
  go_enter Try.func48, Try.ntmps48
  go_wp2_with fail
  (refine Ord.wp_region_ord [(false, 0), (false, 1), (false, 2), (false, 3), (false, 4), (false, 5), (false, 6), (false, 7), (false, 8), (false, 9), (false, 10), (false, 11), (false, 12), (false, 13), (false, 14), (false, 15), (false, 16), (false, 17), (false, 18), (false, 19), (false, 20), (false, 21), (false, 22), (false, 23), (false, 24), (false, 25), (false, 26), (false, 27), (false, 28), (false, 29), (false, 30), (false, 31), (false, 32), (false, 33), (false, 34), (false, 35), (false, 36), (false, 37), (false, 38), (false, 39), (false, 40), (false, 41), (false, 42), (false, 43), (false, 44), (false, 45), (false, 46), (false, 47), (false, 48), (false, 49), (false, 50), (false, 51), (false, 52), (false, 53), (false, 54), (false, 55), (false, 56), (false, 57), (false, 58), (false, 59), (false, 60), (false, 61), (false, 62)] (fun w' => (w'.cell? ⟨w.heap.size, 32, none⟩ = some (.int .i64 ix) ∧ w'.cell? ⟨w.heap.size, 33, none⟩ = some (.int .i64 dt) ∧ w'.cell? ⟨w.heap.size, 34, none⟩ = some (.int .i64 mr) ∧ w'.cell? ⟨w.heap.size, 35, none⟩ = some (.int .i64 lg) ∧ w'.cell? ⟨w.heap.size, 36, none⟩ = some (.string (str pc)))) (by kernel_rfl) (by kernel_rfl) (by kernel_rfl) (by kernel_rfl) (by exact ⟨c32, c33, c34, c35, c36⟩) ?_; simp only [Ord.ordOps, List.filterMap_cons, List.filterMap_nil, List.getElem?_toArray, List.getElem?_cons_succ, List.getElem?_cons_zero, Option.map_some]; repeat (first | (refine Ord.wpOrd_skip ?_ ?_; (focus (go_simp; (try (intro h; cases h)); done)); simp only [Act.put, List.setIfInBounds_toArray, List.set_cons_zero, List.set_cons_succ]) | (refine Ord.wpOrd_take (v := ?_) ?_ ?_ ?_; rotate_left; (focus (go_simp; done)); (focus (intro w' hSw; (try dsimp only at hSw); go_simp; (try with_reducible rfl); done)); simp only [Act.put, List.setIfInBounds_toArray, List.set_cons_zero, List.set_cons_succ])))
  refine Ord.wpOrd_nil ?_
  go_wp2
  go_ret
  refine ⟨ret_b ?_, hba.drew⟩
  rw [Hr.out, Bool.eq_iff_iff]
  simp
end Go.Proofs.Ytcjabfdjngekfaa.Vol
