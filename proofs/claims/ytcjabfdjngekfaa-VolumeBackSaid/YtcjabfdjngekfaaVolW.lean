/- Walks of layer 21: small ones. -/
import Derived.Test.YtcjabfdjngekfaaVolPure
import Derived.Test.YtcjabfdjngekfaaShaConsts
set_option linter.unusedVariables false
set_option linter.unusedSimpArgs false
namespace Go.Proofs.Ytcjabfdjngekfaa.Vol
open Go.RowKit Go.Proofs.Ytcjabfdjngekfaa.Wd

def I64 (n : Int) : Prop := -9223372036854775808 ≤ n ∧ n < 9223372036854775808
theorem ret_i {k : IntKind} {a b : Int} (h : a = b) : Ending.returned (.int k a) = .returned (.int k b) := by rw [h]
theorem ret_b {a b : Bool} (h : a = b) : Ending.returned (.bool a) = .returned (.bool b) := by rw [h]
set_option maxRecDepth 100000 in
theorem shard_any (lg dt : Int) (hl : I64 lg) (hd : I64 dt) (w : World) : Calls Try.prog 28 #[.int .i64 lg, .int .i64 dt] w fun e w' => e = .returned (.int .i64 (shardN lg dt)) ∧ w' = w := by
  obtain ⟨l1, l2⟩ := hl
  obtain ⟨d1, d2⟩ := hd
  by_cases h0 : lg < 0
  · go_enter Try.func28, Try.ntmps28
    go_wp2
    go_ret
    exact ⟨ret_i (by unfold shardN; rw [if_pos (.inl h0)]), rfl⟩
  · by_cases h1 : dt < 1
    · go_enter Try.func28, Try.ntmps28
      go_wp2
      go_ret
      exact ⟨ret_i (by unfold shardN; rw [if_pos (.inr h1)]), rfl⟩
    · by_cases h2 : lg = 0
      · subst h2
        go_enter Try.func28, Try.ntmps28
        go_wp2
        go_ret
        exact ⟨ret_i (by unfold shardN; rw [if_neg (by omega), if_pos rfl]), rfl⟩
      · have e1 : (lg == 0) = false := by simpa using h2
        have p1 : 0 ≤ lg - 1 := by omega
        have p2 : 0 < dt := by omega
        have q1 : 0 ≤ (lg - 1) / dt := Int.ediv_nonneg p1 (by omega)
        have q2 : (lg - 1) / dt ≤ lg - 1 := Int.ediv_le_self _ p1
        have q3 : (lg - 1).tdiv dt = (lg - 1) / dt := Int.tdiv_eq_ediv_of_nonneg p1
        have q4 : IntKind.i64.wrap (lg - 1) = lg - 1 := by rw [IntKind.wrap_i64]; omega
        obtain ⟨q, hq⟩ : ∃ q, q = (lg - 1) / dt := ⟨_, rfl⟩
        rw [← hq] at q1 q2 q3
        have hs : shardN lg dt = q + 1 := by unfold shardN; rw [if_neg (by omega), if_neg h2, hq]
        have Hs := Lib.hid hs
        have q5 : IntKind.i64.wrap (q + 1) = q + 1 := by rw [IntKind.wrap_i64]; omega
        have q6 : IntKind.i64.wrap q = q := by rw [IntKind.wrap_i64]; omega
        have q7 : (lg - 1) / dt = q := hq.symm
        have q8 : ¬ dt = 0 := by omega
        have q9 : (dt == 0) = false := by simpa using q8
        clear hq hs
        go_enter Try.func28, Try.ntmps28
        go_wp2
        go_ret
        exact ⟨ret_i Hs.out.symm, rfl⟩
set_option maxRecDepth 100000 in
theorem size_any (n : Int) (h0 : 0 ≤ n) (h1 : n ≤ 140737488355328) (w : World) : Calls Try.prog 29 #[.int .i64 n] w fun e w' => e = .returned (.int .i64 (75 + n)) ∧ w' = w := by
  go_enter Try.func29, Try.ntmps29
  go_wp2
  go_ret
  exact ⟨rfl, rfl⟩
set_option maxRecDepth 100000 in
theorem within_any (v a b : Int) (w : World) : Calls Try.prog 91 #[.int .i64 v, .int .i64 a, .int .i64 b] w fun e w' => e = .returned (.bool (within v a b)) ∧ w' = w := by
  by_cases h1 : a ≤ v
  · go_enter Try.func91, Try.ntmps91
    go_wp2
    go_ret
    exact ⟨ret_b (by unfold within; first | (simp [h1]; done) | (simp [h1]; omega)), rfl⟩
  · go_enter Try.func91, Try.ntmps91
    go_wp2
    go_ret
    exact ⟨ret_b (by unfold within; first | (simp [h1]; done) | (simp [h1]; omega)), rfl⟩
/-- a volume's cells -/
def vcells (v : V) (vp : Value) : List Value := bs v.bd ++ [.int .i64 v.ix, .int .i64 v.dt, .int .i64 v.mr, .int .i64 v.lg, vp]
/-- a volume that came in -/
structure VIn (w : World) (v : V) (vp : Value) : Prop where
  bd : v.bd.length = 32
  ix : I64 v.ix
  dt : I64 v.dt
  mr : I64 v.mr
  lg : I64 v.lg
  pc : Rd w 1 vp v.pc.length (bs v.pc)
theorem vcells_length (v : V) (vp : Value) (h : v.bd.length = 32) : (vcells v vp).length = 37 := by simp [vcells, bs_length, h]
theorem vcells_get (v : V) (vp : Value) (h : v.bd.length = 32) (j : Nat) : (vcells v vp)[32 + j]? = [Value.int .i64 v.ix, .int .i64 v.dt, .int .i64 v.mr, .int .i64 v.lg, vp][j]? := by
  rw [vcells, List.getElem?_append_right (by rw [bs_length]; omega), bs_length, h, Nat.add_sub_cancel_left]
theorem vcells_one (v : V) (vp : Value) (hp : vp.oneCell' = true) : ∀ u ∈ vcells v vp, u.oneCell' = true := by
  intro u hu
  simp only [vcells, List.mem_append, List.mem_cons, List.not_mem_nil, or_false] at hu
  rcases hu with h | rfl | rfl | rfl | rfl | rfl
  · exact bs_oneCell _ _ h
  · rfl
  · rfl
  · rfl
  · rfl
  · exact hp
theorem infoVol : (Try.prog.info? 46).map (·.size) = some 37 := by kernel_rfl
/-- the five cells behind the sum -/
theorem vol_cells {W : World} {g : Nat} {v : V} {vp : Value} {t : TypeId} (h : v.bd.length = 32) (hg : W.heap[g]? = some (.cells (vcells v vp).toArray t (0, 0))) :
    W.cell? ⟨g, 32, none⟩ = some (.int .i64 v.ix) ∧ W.cell? ⟨g, 33, none⟩ = some (.int .i64 v.dt) ∧ W.cell? ⟨g, 34, none⟩ = some (.int .i64 v.mr) ∧ W.cell? ⟨g, 35, none⟩ = some (.int .i64 v.lg) ∧ W.cell? ⟨g, 36, none⟩ = some vp := by
  have hc : ∀ j, W.cell? ⟨g, 32 + j, none⟩ = [Value.int .i64 v.ix, .int .i64 v.dt, .int .i64 v.mr, .int .i64 v.lg, vp][j]? := by
    intro j; rw [blk_cell hg]; simp only [List.getElem?_toArray]; exact vcells_get v vp h j
  exact ⟨hc 0, hc 1, hc 2, hc 3, hc 4⟩
set_option maxRecDepth 100000 in
set_option maxHeartbeats 2000000 in
theorem right_any (v : V) (vp : Value) (w0 w : World) (hv : VIn w0 v vp) : Calls Try.prog 32 #[.agg (vcells v vp).toArray] w fun e w' => e = .returned (.bool v.right) ∧ Below w.heap.size w w' := by
  obtain ⟨hbd, hix, hdt, hmr, hlg, hpc⟩ := hv
  obtain ⟨A, c, rfl, hp1, hp2, -⟩ := hpc.slice_
  have hvc : ∀ W : World, _ := fun W => vol_cells (W := W.alloc (.cells (vcells v (.slice A v.pc.length c)).toArray 46)) (g := W.heap.size) hbd (heap_alloc_new _ _)
  obtain ⟨L, hL⟩ : ∃ L, L = vcells v (.slice A v.pc.length c) := ⟨_, rfl⟩
  rw [← hL] at hvc ⊢
  obtain ⟨bd, ix, dt, mr, lg, pc⟩ := v
  have hr : V.right ⟨bd, ix, dt, mr, lg, pc⟩ = (within dt 1 255 && within mr 0 (255 - dt) && within ix 0 (dt + mr - 1) && within lg 0 65536 && decide ((pc.length : Int) = shardN lg dt)) := rfl
  have Hr := Lib.hid hr
  simp only at hvc hix hdt hmr hlg hp1
  unfold maxLen at hp2
  have hS := Lib.hid (shard_any lg dt hlg hdt)
  obtain ⟨x1, x2⟩ := hix
  obtain ⟨x3, x4⟩ := hdt
  obtain ⟨x5, x6⟩ := hmr
  obtain ⟨x7, x8⟩ := hlg
  obtain ⟨c32, c33, c34, c35, c36⟩ := hvc w
  clear hL hvc hr hpc hbd
  have wd : ∀ v a b, within v a b = true → a ≤ v ∧ v ≤ b := by intro v a b h; unfold within at h; simpa using h
  have Wd := Lib.hid wd
  clear wd
  have end1 : ∀ b, V.right ⟨bd, ix, dt, mr, lg, pc⟩ = b → ∀ W, Below w.heap.size w W → (Ending.returned (.bool b) = .returned (.bool (V.right ⟨bd, ix, dt, mr, lg, pc⟩)) ∧ Below w.heap.size w W) := fun b h W hW => ⟨ret_b h.symm, hW⟩
  have End1 := Lib.hid end1
  clear end1
  have hba : Below w.heap.size w (w.alloc (.cells L.toArray 46)) := (Below.refl _ _).alloc (Nat.le_refl _) _
  by_cases g1 : within dt 1 255 = true
  · obtain ⟨y1, y2⟩ := Wd.out _ _ _ g1
    have s1 : IntKind.i64.wrap (255 - dt) = 255 - dt := by rw [IntKind.wrap_i64]; omega
    by_cases g2 : within mr 0 (255 - dt) = true
    · obtain ⟨y3, y4⟩ := Wd.out _ _ _ g2
      have s2 : IntKind.i64.wrap (dt + mr) = dt + mr := by rw [IntKind.wrap_i64]; omega
      have s3 : IntKind.i64.wrap (dt + mr - 1) = dt + mr - 1 := by rw [IntKind.wrap_i64]; omega
      by_cases g3 : within ix 0 (dt + mr - 1) = true
      · by_cases g4 : within lg 0 65536 = true
        · obtain ⟨s, hs⟩ : ∃ s, s = shardN lg dt := ⟨_, rfl⟩
          rw [← hs] at hS
          have hrr : V.right ⟨bd, ix, dt, mr, lg, pc⟩ = decide ((pc.length : Int) = s) := by rw [Hr.out, g1, g2, g3, g4, hs]; simp
          have Hrr := Lib.hid hrr
          clear hs hrr
          go_enter Try.func32, Try.ntmps32
          go_wp2_with (go_at_call 91; refine (within_any _ _ _ _).mono ?_; rintro e w1 ⟨rfl, rfl⟩)
          (refine Ord.wp_region_ord [(false, 0), (false, 1), (true, 2), (false, 3), (false, 4), (false, 5), (false, 6), (false, 7), (false, 8), (false, 9), (false, 10), (true, 11), (false, 12), (false, 13), (false, 14)] (fun w' => (w'.cell? ⟨w.heap.size, 33, none⟩ = some (.int .i64 dt) ∧ w'.cell? ⟨w.heap.size, 35, none⟩ = some (.int .i64 lg) ∧ w'.cell? ⟨w.heap.size, 36, none⟩ = some (.slice A pc.length c))) (by kernel_rfl) (by kernel_rfl) (by kernel_rfl) (by kernel_rfl) (by exact ⟨c33, c35, c36⟩) ?_; simp only [Ord.ordOps, List.filterMap_cons, List.filterMap_nil, List.getElem?_toArray, List.getElem?_cons_succ, List.getElem?_cons_zero, Option.map_some]; repeat (first | (refine Ord.wpOrd_skip ?_ ?_; (focus (go_simp; (try (intro h; cases h)); done)); simp only [Act.put, List.setIfInBounds_toArray, List.set_cons_zero, List.set_cons_succ]) | (refine Ord.wpOrd_take (v := ?_) ?_ ?_ ?_; rotate_left; (focus (go_simp; done)); (focus (intro w' hSw; (try dsimp only at hSw); go_simp; (try with_reducible rfl); done)); simp only [Act.put, List.setIfInBounds_toArray, List.set_cons_zero, List.set_cons_succ])))
          (refine Ord.wpOrd_call ?_ (fun K hK => ?_); (focus (go_simp; done)); go_simp)
          go_at_call 91
          refine (within_any _ _ _ _).mono ?_
          rintro e w3 ⟨rfl, rfl⟩
          (refine hK _ _ (by exact ⟨c33, c35, c36⟩) ?_; clear hK K; (try simp only [Act.put, List.setIfInBounds_toArray, List.set_cons_zero, List.set_cons_succ]); repeat (first | (refine Ord.wpOrd_skip ?_ ?_; (focus (go_simp; (try (intro h; cases h)); done)); simp only [Act.put, List.setIfInBounds_toArray, List.set_cons_zero, List.set_cons_succ]) | (refine Ord.wpOrd_take (v := ?_) ?_ ?_ ?_; rotate_left; (focus (go_simp; done)); (focus (intro w' hSw; (try dsimp only at hSw); go_simp; (try with_reducible rfl); done)); simp only [Act.put, List.setIfInBounds_toArray, List.set_cons_zero, List.set_cons_succ])))
          (refine Ord.wpOrd_call ?_ (fun K hK => ?_); (focus (go_simp; done)); go_simp)
          go_at_call 28
          refine (hS.out _).mono ?_
          rintro e w3 ⟨rfl, rfl⟩
          (refine hK _ _ (by exact ⟨c33, c35, c36⟩) ?_; clear hK K; (try simp only [Act.put, List.setIfInBounds_toArray, List.set_cons_zero, List.set_cons_succ]); repeat (first | (refine Ord.wpOrd_skip ?_ ?_; (focus (go_simp; (try (intro h; cases h)); done)); simp only [Act.put, List.setIfInBounds_toArray, List.set_cons_zero, List.set_cons_succ]) | (refine Ord.wpOrd_take (v := ?_) ?_ ?_ ?_; rotate_left; (focus (go_simp; done)); (focus (intro w' hSw; (try dsimp only at hSw); go_simp; (try with_reducible rfl); done)); simp only [Act.put, List.setIfInBounds_toArray, List.set_cons_zero, List.set_cons_succ])))
          refine Ord.wpOrd_nil ?_
          go_wp2
          go_ret
          refine ⟨ret_b ?_, hba.drew⟩
          rw [Hrr.out, Bool.eq_iff_iff]
          simp
        · have g4' : within lg 0 65536 = false := by simpa using g4
          have hrr : V.right ⟨bd, ix, dt, mr, lg, pc⟩ = false := by rw [Hr.out, g4']; simp
          have Hrr := Lib.hid hrr
          clear hrr
          go_enter Try.func32, Try.ntmps32
          go_wp2_with (go_at_call 91; refine (within_any _ _ _ _).mono ?_; rintro e w1 ⟨rfl, rfl⟩)
          (refine Ord.wp_region_ord [(false, 0), (false, 1), (true, 2), (false, 3), (false, 4), (false, 5), (false, 6), (false, 7), (false, 8), (false, 9), (false, 10), (true, 11), (false, 12), (false, 13), (false, 14)] (fun w' => (w'.cell? ⟨w.heap.size, 33, none⟩ = some (.int .i64 dt) ∧ w'.cell? ⟨w.heap.size, 35, none⟩ = some (.int .i64 lg) ∧ w'.cell? ⟨w.heap.size, 36, none⟩ = some (.slice A pc.length c))) (by kernel_rfl) (by kernel_rfl) (by kernel_rfl) (by kernel_rfl) (by exact ⟨c33, c35, c36⟩) ?_; simp only [Ord.ordOps, List.filterMap_cons, List.filterMap_nil, List.getElem?_toArray, List.getElem?_cons_succ, List.getElem?_cons_zero, Option.map_some]; repeat (first | (refine Ord.wpOrd_skip ?_ ?_; (focus (go_simp; (try (intro h; cases h)); done)); simp only [Act.put, List.setIfInBounds_toArray, List.set_cons_zero, List.set_cons_succ]) | (refine Ord.wpOrd_take (v := ?_) ?_ ?_ ?_; rotate_left; (focus (go_simp; done)); (focus (intro w' hSw; (try dsimp only at hSw); go_simp; (try with_reducible rfl); done)); simp only [Act.put, List.setIfInBounds_toArray, List.set_cons_zero, List.set_cons_succ])))
          (refine Ord.wpOrd_call ?_ (fun K hK => ?_); (focus (go_simp; done)); go_simp)
          go_at_call 91
          refine (within_any _ _ _ _).mono ?_
          rintro e w3 ⟨rfl, rfl⟩
          (refine hK _ _ (by exact ⟨c33, c35, c36⟩) ?_; clear hK K; (try simp only [Act.put, List.setIfInBounds_toArray, List.set_cons_zero, List.set_cons_succ]); repeat (first | (refine Ord.wpOrd_skip ?_ ?_; (focus (go_simp; (try (intro h; cases h)); done)); simp only [Act.put, List.setIfInBounds_toArray, List.set_cons_zero, List.set_cons_succ]) | (refine Ord.wpOrd_take (v := ?_) ?_ ?_ ?_; rotate_left; (focus (go_simp; done)); (focus (intro w' hSw; (try dsimp only at hSw); go_simp; (try with_reducible rfl); done)); simp only [Act.put, List.setIfInBounds_toArray, List.set_cons_zero, List.set_cons_succ])))
          refine Ord.wpOrd_nil ?_
          go_wp2
          go_ret
          exact ⟨ret_b Hrr.out.symm, hba.drew⟩
      · have g3' : within ix 0 (dt + mr - 1) = false := by simpa using g3
        have hrr : V.right ⟨bd, ix, dt, mr, lg, pc⟩ = false := by rw [Hr.out, g3']; simp
        have Hrr := Lib.hid hrr
        clear hrr
        go_enter Try.func32, Try.ntmps32
        go_wp2_with (go_at_call 91; refine (within_any _ _ _ _).mono ?_; rintro e w1 ⟨rfl, rfl⟩)
        go_ret
        exact ⟨ret_b Hrr.out.symm, hba⟩
    · have g2' : within mr 0 (255 - dt) = false := by simpa using g2
      have hrr : V.right ⟨bd, ix, dt, mr, lg, pc⟩ = false := by rw [Hr.out, g2']; simp
      have Hrr := Lib.hid hrr
      clear hrr
      go_enter Try.func32, Try.ntmps32
      go_wp2_with (go_at_call 91; refine (within_any _ _ _ _).mono ?_; rintro e w1 ⟨rfl, rfl⟩)
      go_ret
      exact ⟨ret_b Hrr.out.symm, hba⟩
  · have g1' : within dt 1 255 = false := by simpa using g1
    have hrr : V.right ⟨bd, ix, dt, mr, lg, pc⟩ = false := by rw [Hr.out, g1']; simp
    have Hrr := Lib.hid hrr
    clear hrr
    go_enter Try.func32, Try.ntmps32
    go_wp2_with (go_at_call 91; refine (within_any _ _ _ _).mono ?_; rintro e w1 ⟨rfl, rfl⟩)
    go_ret
    exact ⟨ret_b Hrr.out.symm, hba⟩
end Go.Proofs.Ytcjabfdjngekfaa.Vol
