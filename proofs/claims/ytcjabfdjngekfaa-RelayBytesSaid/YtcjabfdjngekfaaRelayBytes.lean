/- RelayBytes' walk. -/
import Derived.Test.YtcjabfdjngekfaaRelW8
import Derived.Test.YtcjabfdjngekfaaOrdL
import Derived.Deep.CutRange
set_option linter.unusedVariables false
set_option linter.unusedSimpArgs false
namespace Go.Proofs.Ytcjabfdjngekfaa.Rel
open Go.RowKit Go.Proofs.Ytcjabfdjngekfaa.Wd Go.Proofs.Ytcjabfdjngekfaa.Use Go.Proofs.Ytcjabfdjngekfaa.Lay

theorem read_ein (s : List UInt8) (hs : s.length ≤ 100000) {W : World} {hv : Value} (h : Rd W 1 hv (E.read s).hops.length (is (E.read s).hops)) : EIn W (E.read s) hv := by
  by_cases hg : E.good s = true
  · rw [show E.read s = E.raw s by rw [E.read, hg]; rfl] at h ⊢
    exact raw_in s hs h
  · rw [show E.read s = E.zero by rw [E.read, if_neg hg]] at h ⊢
    exact ⟨h, by show I64 0; unfold I64; omega, by intro x hx; simp [E.zero] at hx, by simp [E.zero]⟩
theorem read_len (s : List UInt8) : (E.read s).hops.length ≤ 8 := by
  unfold E.read
  split
  · show (rdHops (rdN s) (rd3 s)).1.length ≤ 8
    rw [rdHops_length]; exact small_le (rd2 s) 8
  · simp [E.zero]
def C3 (W : World) (g : Nat) (a b c : Value) : Prop := W.cell? ⟨g, 0, none⟩ = some a ∧ W.cell? ⟨g, 1, none⟩ = some b ∧ W.cell? ⟨g, 2, none⟩ = some c
set_option maxRecDepth 100000 in
set_option maxHeartbeats 16000000 in
theorem RelayBytes_any (e : E) (hv vb : Value) (s : List UInt8) (w : World) (he : EIn w e hv) (hb : Rd w 1 vb s.length (bs s)) :
    Calls Try.prog 6 #[.agg #[hv, .int .i64 e.limit, .string (str e.inner)], vb] w fun r w' => r = .returned (.bool true) ∧ Below w.heap.size w w' := by
  obtain ⟨A, c, rfl, hc1, hc2, -⟩ := he.hops.slice_
  obtain ⟨Ab, cb, rfl, hb1, hb2, -⟩ := hb.slice_
  unfold maxLen at hc2 hb2
  obtain ⟨W0, hW0⟩ : ∃ W, W = w.alloc (.cells #[.slice A e.hops.length c, .int .i64 e.limit, .string (str e.inner)] 56) := ⟨_, rfl⟩
  have hg0 : W0.heap[w.heap.size]? = some (.cells #[.slice A e.hops.length c, .int .i64 e.limit, .string (str e.inner)] 56 (0, 0)) := by rw [hW0]; exact heap_alloc_new _ _
  have hB0 : Below w.heap.size w W0 := by rw [hW0]; exact below_one _ _
  have he0 : EIn W0 e (.slice A e.hops.length c) := he.below hB0
  have hb0 : Rd W0 1 (.slice Ab s.length cb) s.length (bs s) := hb.below hB0
  have hhl := he.inner
  have hel := he.limit
  have heh := he.hop
  have how := fun W (hW : Below W0.heap.size W0 W) (hl : e.hops.length * 8 ≤ 140737488355328) => own_any e (.slice A e.hops.length c) W (he0.below hW) hl
  have hpu := fun W (hW : Below W0.heap.size W0 W) => put_any e (.slice A e.hops.length c) W (he0.below hW)
  have hrg := fun W (hW : Below W0.heap.size W0 W) => right_any e (.slice A e.hops.length c) W (he0.below hW)
  have hnw := fun W (hW : Below W0.heap.size W0 W) (hl : e.hops.length * 8 ≤ 140737488355328) => new_any e.hops e.limit (str e.inner) (.slice A e.hops.length c) W (he0.below hW).hops hl
  have hr2 := fun W v (h : Rd W 1 v e.hops.length (is e.hops)) => rright_any e v W ⟨h, hel, heh, hhl⟩
  have hr3 := fun (hr : e.right = true) W v (h : Rd W 1 v e.hops.length (is e.hops)) => rput_any e v W ⟨h, hel, heh, hhl⟩ hr
  have hsa := fun W va vb (h1 : Rd W 1 va e.hops.length (is e.hops)) (h2 : Rd W 1 vb e.hops.length (is e.hops)) => same_any e.hops e.limit (str e.inner) va vb W h1 h2
  have how2 := fun W v (h : Rd W 1 v e.hops.length (is e.hops)) (hl : e.hops.length * 8 ≤ 140737488355328) => own_any e v W ⟨h, hel, heh, hhl⟩ hl
  obtain ⟨sn, hsn⟩ : ∃ x, x = str e.inner := ⟨_, rfl⟩
  obtain ⟨il, hil⟩ : ∃ x, x = e.inner.length := ⟨_, rfl⟩
  have hss : sn.size = il := by rw [hsn, hil, str_size]
  obtain ⟨n, hn⟩ : ∃ x, x = e.hops.length := ⟨_, rfl⟩
  obtain ⟨lm, hlm⟩ : ∃ x, x = e.limit := ⟨_, rfl⟩
  obtain ⟨rt, hrt⟩ : ∃ r, r = e.right := ⟨_, rfl⟩
  obtain ⟨er, her⟩ : ∃ r, r = errP e := ⟨_, rfl⟩
  obtain ⟨pt, hpt⟩ : ∃ r, r = putl e := ⟨_, rfl⟩
  have hpt1 : rt = true → pt = e.put := by intro h; rw [hpt, putl, ← hrt, h]; rfl
  have hpt0 : rt = false → pt = [] := by intro h; rw [hpt, putl, ← hrt, h]; rfl
  have her1 : er = if rt then 0 else 2 := by rw [her, errP, hrt]
  rw [← hsn, ← hn, ← hlm] at hW0 hg0 ⊢
  rw [← hsn, ← hn, ← hlm] at how hpu hrg hr2 hr3 hsa how2 hnw
  rw [← hrt] at hrg hr2 hr3
  rw [← her, ← hpt] at hpu
  rw [← hn] at hc1
  obtain ⟨ho, hho⟩ : ∃ x, x = is e.hops := ⟨_, rfl⟩
  rw [← hho] at how hnw hr2 hr3 hsa how2
  have Hg0 := Lib.hid hg0
  have HW0 := Lib.hid hW0
  have Hb0 := Lib.hid hb0
  have How := Lib.hid how
  have Hpu := Lib.hid hpu
  have Hrg := Lib.hid hrg
  have Hnw := Lib.hid hnw
  have Hr2 := Lib.hid hr2
  have Hr3 := Lib.hid hr3
  have Hsa := Lib.hid hsa
  have How2 := Lib.hid how2
  have Hpt1 := Lib.hid hpt1
  have Hpt0 := Lib.hid hpt0
  have Her := Lib.hid her1
  obtain ⟨k0, k1, k2⟩ := env_cells hg0
  clear hg0 hW0 hb0 how hpu hrg hnw hr2 hr3 hsa how2 hpt1 hpt0 her1 hsn hil hn hlm hrt her hpt hho he he0 hb hhl hel heh
  by_cases h1 : n ≤ 40
  rotate_left
  · have hd1 : decide ((40 : Int) < (n : Int)) = true := decide_eq_true (by omega)
    go_enter Try.func6, Try.ntmps6
    go_upto_region 1 with fail
    rw [← HW0.out]
    go_wp2_with fail
    go_ret
    exact ⟨rfl, hB0⟩
  have hd1 : decide ((40 : Int) < (n : Int)) = false := decide_eq_false (by omega)
  by_cases h2 : il ≤ 500
  rotate_left
  · have hd2 : decide ((500 : Int) < (il : Int)) = true := decide_eq_true (by omega)
    go_enter Try.func6, Try.ntmps6
    go_upto_region 1 with fail
    rw [← HW0.out]
    go_wp2_with fail
    go_ret
    exact ⟨rfl, hB0⟩
  have hd2 : decide ((500 : Int) < (il : Int)) = false := decide_eq_false (by omega)
  by_cases h3 : s.length ≤ 1000
  rotate_left
  · have hd3 : decide ((1000 : Int) < (s.length : Int)) = true := decide_eq_true (by omega)
    go_enter Try.func6, Try.ntmps6
    go_upto_region 1 with fail
    rw [← HW0.out]
    go_wp2_with fail
    go_ret
    exact ⟨rfl, hB0⟩
  have hd3 : decide ((1000 : Int) < (s.length : Int)) = false := decide_eq_false (by omega)
  have hn8 : n * 8 ≤ 140737488355328 := by omega
  have Hcv := Lib.hid (fun W (hW : Below W0.heap.size W0 W) => conv_rd s (Hb0.out.below hW))
  go_enter Try.func6, Try.ntmps6
  go_upto_region 1 with fail
  rw [← HW0.out]
  go_upto_region 5 with (first
    | (go_at_call 35; refine (How.out _ (Below.refl _ _) hn8).mono ?_; rintro e w2 ⟨v2, rfl, ho2, hB2⟩; obtain ⟨A2, c2, rfl, -, -, -⟩ := (Rd.of_own ho2).slice_; have hB3 : Below W0.heap.size W0 (w2.alloc (.cells #[.slice A2 n c2, .int .i64 lm, .string sn] 57)) := hB2.alloc hB2.size _; have Hr3d := Lib.hid ((Rd.of_own ho2).below (below_one w2 (.cells #[.slice A2 n c2, .int .i64 lm, .string sn] 57))); have hw3 := Lib.hid (heap_alloc_new w2 (.cells #[.slice A2 n c2, .int .i64 lm, .string sn] 57)); clear k0 k1 k2 ho2; obtain ⟨k0, k1, k2⟩ := env_cells (blk_below Hg0.out hB3))
    | (go_at_call 36; refine (Hpu.out _ hB3).mono ?_; rintro e w4 ⟨v4, rfl, hr4, hb4⟩; obtain ⟨A4, c4, rfl, hc4, hc5, -⟩ := hr4.slice_; unfold maxLen at hc5; have Hr4 := Lib.hid hr4; have hB4 := below_go hb4 hB3; have Hw4 := Lib.hid (blk_below hw3.out hb4); have Hr4d := Lib.hid (Hr3d.out.below hb4); clear hr4 hb4 hw3 Hr3d k0 k1 k2))
  have hS : ∀ W, Below w4.heap.size w4 W → (W.cell? ⟨w.heap.size, 0, none⟩ = some (.slice A n c) ∧ W.cell? ⟨w.heap.size, 1, none⟩ = some (.int .i64 lm) ∧ W.cell? ⟨w.heap.size, 2, none⟩ = some (.string sn)) ∧ (W.cell? ⟨w2.heap.size, 0, none⟩ = some (.slice A2 n c2) ∧ W.cell? ⟨w2.heap.size, 1, none⟩ = some (.int .i64 lm) ∧ W.cell? ⟨w2.heap.size, 2, none⟩ = some (.string sn)) ∧ (convert 23 9 (.slice A4 pt.length c4)).run Try.prog W = .ok (.string (str pt)) W :=
    fun W hW => ⟨env_cells (blk_below Hg0.out (below_go hW hB4)), env_cells (blk_below Hw4.out hW), conv_rd _ (Hr4.out.below hW)⟩
  have HS := Lib.hid hS
  clear hS
  go_cut [70] from 35 to 69 (fun s4 wx => s4 = .bool false ∧ Below w4.heap.size w4 wx)
  case first =>
    cases rt with
    | true =>
      have he0 : er = 0 := Her.out
      subst he0
      have hpq := Hpt1.out rfl
      have hr3' := Hr3.out rfl
      rw [← hpq] at hr3'
      have Hr3' := Lib.hid hr3'
      clear hpq hr3' Hr3
      (refine Ord.wp_region_ord [(false, 0), (false, 2), (true, 1), (true, 3), (false, 4), (false, 5), (false, 6), (false, 7), (false, 8), (true, 9), (false, 10), (false, 11), (false, 12), (false, 13), (false, 14), (false, 15), (false, 16), (false, 17), (false, 18), (true, 19), (false, 20), (false, 21), (false, 22), (false, 23), (false, 24), (false, 25), (false, 26), (false, 27), (false, 28), (false, 29), (false, 30), (false, 31), (false, 32), (false, 33), (false, 34), (false, 35)] (fun W => (W.cell? ⟨w.heap.size, 0, none⟩ = some (.slice A n c) ∧ W.cell? ⟨w.heap.size, 1, none⟩ = some (.int .i64 lm) ∧ W.cell? ⟨w.heap.size, 2, none⟩ = some (.string sn)) ∧ (W.cell? ⟨w2.heap.size, 0, none⟩ = some (.slice A2 n c2) ∧ W.cell? ⟨w2.heap.size, 1, none⟩ = some (.int .i64 lm) ∧ W.cell? ⟨w2.heap.size, 2, none⟩ = some (.string sn)) ∧ (convert 23 9 (.slice A4 pt.length c4)).run Try.prog W = .ok (.string (str pt)) W) (by kernel_rfl) (by kernel_rfl) (by kernel_rfl) (by kernel_rfl) (by exact HS.out _ (Below.refl _ _).drew) ?_; simp only [Ord.ordOps, List.filterMap_cons, List.filterMap_nil, List.getElem?_toArray, List.getElem?_cons_succ, List.getElem?_cons_zero, Option.map_some]; repeat (first | (refine Ord.wpOrd_skip ?_ ?_; (focus (go_simp; (try (intro h; cases h)); done)); simp only [Act.put, List.setIfInBounds_toArray, List.set_cons_zero, List.set_cons_succ]) | (refine Ord.wpOrd_take (v := ?_) ?_ ?_ ?_; rotate_left; (focus (go_simp; done)); (focus (intro w' hSw; (try dsimp only at hSw); go_simp; (try with_reducible rfl); done)); simp only [Act.put, List.setIfInBounds_toArray, List.set_cons_zero, List.set_cons_succ])))
      (refine Ord.wpOrd_call ?_ (fun K hK => ?_); (focus (go_simp; done)); go_simp)
      go_at_call 37
      refine (Hrg.out _ hB4.drew).mono ?_
      rintro e w5 ⟨rfl, hb5⟩
      have hB5 := below_go hb5 (Below.refl w4.heap.size w4).drew
      clear hb5
      (refine hK _ _ (by exact HS.out _ hB5) ?_; clear hK K; (try simp only [Act.put, List.setIfInBounds_toArray, List.set_cons_zero, List.set_cons_succ]); repeat (first | (refine Ord.wpOrd_skip ?_ ?_; (focus (go_simp; (try (intro h; cases h)); done)); simp only [Act.put, List.setIfInBounds_toArray, List.set_cons_zero, List.set_cons_succ]) | (refine Ord.wpOrd_take (v := ?_) ?_ ?_ ?_; rotate_left; (focus (go_simp; done)); (focus (intro w' hSw; (try dsimp only at hSw); go_simp; (try with_reducible rfl); done)); simp only [Act.put, List.setIfInBounds_toArray, List.set_cons_zero, List.set_cons_succ])))
      (refine Ord.wpOrd_call ?_ (fun K hK => ?_); (focus (go_simp; done)); go_simp)
      go_at_call 38
      refine (Hr2.out _ _ (Hr4d.out.below hB5)).mono ?_
      rintro e w6 ⟨rfl, hb6⟩
      have hB6 := below_go hb6 hB5
      clear hb6 hB5
      (refine hK _ _ (by exact HS.out _ hB6) ?_; clear hK K; (try simp only [Act.put, List.setIfInBounds_toArray, List.set_cons_zero, List.set_cons_succ]); repeat (first | (refine Ord.wpOrd_skip ?_ ?_; (focus (go_simp; (try (intro h; cases h)); done)); simp only [Act.put, List.setIfInBounds_toArray, List.set_cons_zero, List.set_cons_succ]) | (refine Ord.wpOrd_take (v := ?_) ?_ ?_ ?_; rotate_left; (focus (go_simp; done)); (focus (intro w' hSw; (try dsimp only at hSw); go_simp; (try with_reducible rfl); done)); simp only [Act.put, List.setIfInBounds_toArray, List.set_cons_zero, List.set_cons_succ])))
      (refine Ord.wpOrd_call ?_ (fun K hK => ?_); (focus (go_simp; done)); go_simp)
      go_at_call 38
      refine (Hr2.out _ _ (Hr4d.out.below hB6)).mono ?_
      rintro e w7 ⟨rfl, hb7⟩
      have hB7 := below_go hb7 hB6
      clear hb7 hB6
      (refine hK _ _ (by exact HS.out _ hB7) ?_; clear hK K; (try simp only [Act.put, List.setIfInBounds_toArray, List.set_cons_zero, List.set_cons_succ]); repeat (first | (refine Ord.wpOrd_skip ?_ ?_; (focus (go_simp; (try (intro h; cases h)); done)); simp only [Act.put, List.setIfInBounds_toArray, List.set_cons_zero, List.set_cons_succ]) | (refine Ord.wpOrd_take (v := ?_) ?_ ?_ ?_; rotate_left; (focus (go_simp; done)); (focus (intro w' hSw; (try dsimp only at hSw); go_simp; (try with_reducible rfl); done)); simp only [Act.put, List.setIfInBounds_toArray, List.set_cons_zero, List.set_cons_succ])))
      (refine Ord.wpOrd_call ?_ (fun K hK => ?_); (focus (go_simp; done)); go_simp)
      go_at_call 39
      refine (Hr3'.out _ _ (Hr4d.out.below hB7)).mono ?_
      rintro e w8 ⟨rfl, hb8⟩
      have hB8 := below_go hb8 hB7
      clear hb8 hB7
      (refine hK _ _ (by exact HS.out _ hB8) ?_; clear hK K; (try simp only [Act.put, List.setIfInBounds_toArray, List.set_cons_zero, List.set_cons_succ]); repeat (first | (refine Ord.wpOrd_skip ?_ ?_; (focus (go_simp; (try (intro h; cases h)); done)); simp only [Act.put, List.setIfInBounds_toArray, List.set_cons_zero, List.set_cons_succ]) | (refine Ord.wpOrd_take (v := ?_) ?_ ?_ ?_; rotate_left; (focus (go_simp; done)); (focus (intro w' hSw; (try dsimp only at hSw); go_simp; (try with_reducible rfl); done)); simp only [Act.put, List.setIfInBounds_toArray, List.set_cons_zero, List.set_cons_succ])))
      refine Ord.wpOrd_nil ?_
      go_wp2_with fail
      go_meet
      exact ⟨rfl, hB8⟩
    | false =>
      have he0 : er = 2 := Her.out
      subst he0
      have hpq := Hpt0.out rfl
      subst hpq
      clear Hr3
      (refine Ord.wp_region_ord [(false, 0), (false, 2), (true, 1), (true, 3), (false, 4), (false, 5), (false, 6), (false, 7), (false, 8), (true, 9), (false, 10), (false, 11), (false, 12), (false, 13), (false, 14), (false, 15), (false, 16), (false, 17), (false, 18), (true, 19), (false, 20), (false, 21), (false, 22), (false, 23), (false, 24), (false, 25), (false, 26), (false, 27), (false, 28), (false, 29), (false, 30), (false, 31), (false, 32), (false, 33), (false, 34), (false, 35)] (fun W => (W.cell? ⟨w.heap.size, 0, none⟩ = some (.slice A n c) ∧ W.cell? ⟨w.heap.size, 1, none⟩ = some (.int .i64 lm) ∧ W.cell? ⟨w.heap.size, 2, none⟩ = some (.string sn)) ∧ (W.cell? ⟨w2.heap.size, 0, none⟩ = some (.slice A2 n c2) ∧ W.cell? ⟨w2.heap.size, 1, none⟩ = some (.int .i64 lm) ∧ W.cell? ⟨w2.heap.size, 2, none⟩ = some (.string sn)) ∧ (convert 23 9 (.slice A4 ([] : List UInt8).length c4)).run Try.prog W = .ok (.string (str [])) W) (by kernel_rfl) (by kernel_rfl) (by kernel_rfl) (by kernel_rfl) (by exact HS.out _ (Below.refl _ _).drew) ?_; simp only [Ord.ordOps, List.filterMap_cons, List.filterMap_nil, List.getElem?_toArray, List.getElem?_cons_succ, List.getElem?_cons_zero, Option.map_some]; repeat (first | (refine Ord.wpOrd_skip ?_ ?_; (focus (go_simp; (try (intro h; cases h)); done)); simp only [Act.put, List.setIfInBounds_toArray, List.set_cons_zero, List.set_cons_succ]) | (refine Ord.wpOrd_take (v := ?_) ?_ ?_ ?_; rotate_left; (focus (go_simp; done)); (focus (intro w' hSw; (try dsimp only at hSw); go_simp; (try with_reducible rfl); done)); simp only [Act.put, List.setIfInBounds_toArray, List.set_cons_zero, List.set_cons_succ])))
      (refine Ord.wpOrd_call ?_ (fun K hK => ?_); (focus (go_simp; done)); go_simp)
      go_at_call 37
      refine (Hrg.out _ hB4.drew).mono ?_
      rintro e w5 ⟨rfl, hb5⟩
      have hB5 := below_go hb5 (Below.refl w4.heap.size w4).drew
      clear hb5
      (refine hK _ _ (by exact HS.out _ hB5) ?_; clear hK K; (try simp only [Act.put, List.setIfInBounds_toArray, List.set_cons_zero, List.set_cons_succ]); repeat (first | (refine Ord.wpOrd_skip ?_ ?_; (focus (go_simp; (try (intro h; cases h)); done)); simp only [Act.put, List.setIfInBounds_toArray, List.set_cons_zero, List.set_cons_succ]) | (refine Ord.wpOrd_take (v := ?_) ?_ ?_ ?_; rotate_left; (focus (go_simp; done)); (focus (intro w' hSw; (try dsimp only at hSw); go_simp; (try with_reducible rfl); done)); simp only [Act.put, List.setIfInBounds_toArray, List.set_cons_zero, List.set_cons_succ])))
      (refine Ord.wpOrd_call ?_ (fun K hK => ?_); (focus (go_simp; done)); go_simp)
      go_at_call 38
      refine (Hr2.out _ _ (Hr4d.out.below hB5)).mono ?_
      rintro e w6 ⟨rfl, hb6⟩
      have hB6 := below_go hb6 hB5
      clear hb6 hB5
      (refine hK _ _ (by exact HS.out _ hB6) ?_; clear hK K; (try simp only [Act.put, List.setIfInBounds_toArray, List.set_cons_zero, List.set_cons_succ]); repeat (first | (refine Ord.wpOrd_skip ?_ ?_; (focus (go_simp; (try (intro h; cases h)); done)); simp only [Act.put, List.setIfInBounds_toArray, List.set_cons_zero, List.set_cons_succ]) | (refine Ord.wpOrd_take (v := ?_) ?_ ?_ ?_; rotate_left; (focus (go_simp; done)); (focus (intro w' hSw; (try dsimp only at hSw); go_simp; (try with_reducible rfl); done)); simp only [Act.put, List.setIfInBounds_toArray, List.set_cons_zero, List.set_cons_succ])))
      (refine Ord.wpOrd_call ?_ (fun K hK => ?_); (focus (go_simp; done)); go_simp)
      go_at_call 38
      refine (Hr2.out _ _ (Hr4d.out.below hB6)).mono ?_
      rintro e w7 ⟨rfl, hb7⟩
      have hB7 := below_go hb7 hB6
      clear hb7 hB6
      (refine hK _ _ (by exact HS.out _ hB7) ?_; clear hK K; (try simp only [Act.put, List.setIfInBounds_toArray, List.set_cons_zero, List.set_cons_succ]); repeat (first | (refine Ord.wpOrd_skip ?_ ?_; (focus (go_simp; (try (intro h; cases h)); done)); simp only [Act.put, List.setIfInBounds_toArray, List.set_cons_zero, List.set_cons_succ]) | (refine Ord.wpOrd_take (v := ?_) ?_ ?_ ?_; rotate_left; (focus (go_simp; done)); (focus (intro w' hSw; (try dsimp only at hSw); go_simp; (try with_reducible rfl); done)); simp only [Act.put, List.setIfInBounds_toArray, List.set_cons_zero, List.set_cons_succ])))
      refine Ord.wpOrd_nil ?_
      go_wp2_with fail
      go_meet
      exact ⟨rfl, hB7⟩
  case rest =>
    obtain ⟨rfl, hBc⟩ := hcut
    have hB4c := below_then hB4 hB4.size hBc
    have Hwc := Lib.hid (blk_below Hw4.out hBc)
    have Hrc := Lib.hid (Hr4d.out.below hBc)
    clear HS Hr4 Hw4 Hr4d hBc hB4 Hpu Hrg Hr2 Hr3 hd1 hd2 hd3 hc4 hc5
    have hcv := Hcv.out
    have Hpc := Lib.hid (fun W (hW : Below W0.heap.size W0 W) => Hnw.out W hW hn8)
    have hra := fun W => read_any s W (by omega)
    have hrr := fun W => rread_any s W (by omega)
    have hei := fun W (v : Value) (h : Rd W 1 v (E.read s).hops.length (is (E.read s).hops)) => read_ein s (by omega) h
    have hl8 := read_len s
    have how3 := fun W v (h : Rd W 1 v (E.read s).hops.length (is (E.read s).hops)) => own_any (E.read s) v W (hei W v h) (by omega)
    have hsa3 := fun W va vb (h1 : Rd W 1 va (E.read s).hops.length (is (E.read s).hops)) (h2 : Rd W 1 vb (E.read s).hops.length (is (E.read s).hops)) => same_any (E.read s).hops (E.read s).limit (str (E.read s).inner) va vb W h1 h2
    have his := fun W => is_any s W
    have hkis := kind_is s
    obtain ⟨yl, hyl⟩ : ∃ x, x = (E.read s).limit := ⟨_, rfl⟩
    obtain ⟨yi, hyi⟩ : ∃ x, x = str (E.read s).inner := ⟨_, rfl⟩
    obtain ⟨yn, hyn⟩ : ∃ x, x = (E.read s).hops.length := ⟨_, rfl⟩
    obtain ⟨yh, hyh⟩ : ∃ x, x = is (E.read s).hops := ⟨_, rfl⟩
    obtain ⟨yg, hyg⟩ : ∃ x, x = errR s := ⟨_, rfl⟩
    obtain ⟨yo, hyo⟩ : ∃ x, x = E.good s := ⟨_, rfl⟩
    obtain ⟨kb, hkb⟩ : ∃ x, x = decide (kindOf s = 3) := ⟨_, rfl⟩
    have hyg2 : yg = if yo then 0 else 11 := by rw [hyg, errR, hyo]
    rw [← hyl, ← hyi, ← hyn, ← hyh, ← hyg] at hra
    rw [← hyl, ← hyi, ← hyn, ← hyh, ← hyo] at hrr
    rw [← hyl, ← hyi, ← hyn, ← hyh] at how3 hsa3
    rw [← hkb] at his hkis
    have Hra := Lib.hid hra
    have Hrr := Lib.hid hrr
    have How3 := Lib.hid how3
    have Hsa3 := Lib.hid hsa3
    have His := Lib.hid his
    have Hkis := Lib.hid hkis
    have Hyg := Lib.hid hyg2
    clear hra hrr hei hl8 how3 hsa3 his hkis hyl hyi hyn hyh hyg hyo hkb hyg2
    have kc := hcv _ hB4c
    go_upto_region 9 with (first
      | (go_at_call 40; refine (Hra.out _).mono ?_; rintro e w5 ⟨v5, rfl, hr5, hb5⟩; obtain ⟨A5, c5, rfl, -, -, -⟩ := hr5.slice_; have hB5 := (below_go hb5 hB4c).alloc (below_go hb5 hB4c).size (.cells #[.slice A5 yn c5, .int .i64 yl, .string yi] 56); have hr5' := Lib.hid (hr5.below (below_one w5 (.cells #[.slice A5 yn c5, .int .i64 yl, .string yi] 56))); have hw5 := Lib.hid (heap_alloc_new w5 (.cells #[.slice A5 yn c5, .int .i64 yl, .string yi] 56)); clear kc; have kc := hcv _ hB5; have hb5' := hb5.alloc hb5.size (.cells #[.slice A5 yn c5, .int .i64 yl, .string yi] 56); have Hwd := Lib.hid (blk_below Hwc.out hb5'); have Hrd := Lib.hid (Hrc.out.below hb5'); clear hr5 hb5 hb5')
      | (go_at_call 41; refine (Hrr.out _).mono ?_; rintro e w7 ⟨v7, rfl, hr7, hb7⟩; obtain ⟨A7, c7, rfl, -, -, -⟩ := hr7.slice_; have hB7 := (below_go hb7 hB5).alloc (below_go hb7 hB5).size (.cells #[.slice A7 yn c7, .int .i64 yl, .string yi] 57); have hr7' := Lib.hid (hr7.below (below_one w7 (.cells #[.slice A7 yn c7, .int .i64 yl, .string yi] 57))); have hw7 := Lib.hid (heap_alloc_new w7 (.cells #[.slice A7 yn c7, .int .i64 yl, .string yi] 57)); clear kc; have hb7' := hb7.alloc hb7.size (.cells #[.slice A7 yn c7, .int .i64 yl, .string yi] 57); have hw57 := Lib.hid (blk_below hw5.out hb7'); have hr57 := Lib.hid (hr5'.out.below hb7'); have Hwe := Lib.hid (blk_below Hwd.out hb7'); have Hre := Lib.hid (Hrd.out.below hb7'); clear hr7 hb7 hb7' hw5 hr5'))
    generalize w7.alloc (.cells #[.slice A7 yn c7, .int .i64 yl, .string yi] 57) = w8 at hB7 hr7' hw7 hw57 hr57 Hwe Hre ⊢
    go_cut [12] from 83 to 97 (fun s12 wx => s12 = .bool kb ∧ wx = w8)
    case first =>
      by_cases l2 : 2 ≤ s.length
      rotate_left
      · have d2 : decide ((2 : Int) ≤ (s.length : Int)) = false := decide_eq_false (by omega)
        have hk0 : kb = false := by rw [Hkis.out, decide_eq_false l2]; rfl
        subst hk0
        go_wp2_with fail
        go_meet
        exact ⟨rfl, rfl⟩
      have d2 : decide ((2 : Int) ≤ (s.length : Int)) = true := decide_eq_true (by omega)
      obtain ⟨b, off, hA, -, -, -, hcell⟩ := (Hb0.out.below hB7).at_ (by omega)
      subst hA
      have q0 : w8.cell? ⟨b, off, none⟩ = some (.int .u8 ((s.getD 0 0).toNat : Int)) := by
        have := hcell 0 (by rw [bs_length]; omega)
        rw [Nat.add_zero] at this
        rw [this, ← List.getElem?_eq_getElem, bs_getElem? _ _ (by omega)]
      have q1 : w8.cell? ⟨b, off + 1, none⟩ = some (.int .u8 ((s.getD 1 0).toNat : Int)) := by
        rw [hcell 1 (by rw [bs_length]; omega), ← List.getElem?_eq_getElem, bs_getElem? _ _ (by omega)]
      obtain ⟨x0, hx0⟩ : ∃ x, x = s.getD 0 0 := ⟨_, rfl⟩
      obtain ⟨x1, hx1⟩ : ∃ x, x = s.getD 1 0 := ⟨_, rfl⟩
      rw [← hx0] at q0
      rw [← hx1] at q1
      have hk0 := Hkis.out
      rw [← hx0, ← hx1, decide_eq_true l2, Bool.true_and] at hk0
      clear hcell hx0 hx1
      have hl1 : (1 : Int) < (s.length : Int) := by omega
      have hl0 : (0 : Int) < (s.length : Int) := by omega
      by_cases g0 : x0 = 1
      · have e0 : ((x0.toNat : Int) == 1) = true := by rw [g0]; rfl
        by_cases g1 : x1 = 3
        · have e1 : ((x1.toNat : Int) == 3) = true := by rw [g1]; rfl
          rw [decide_eq_true g0, decide_eq_true g1] at hk0
          have hk1 : kb = true := hk0
          subst hk1
          clear hk0 g0 g1
          go_wp2_with fail
          go_meet
          exact ⟨rfl, rfl⟩
        · have e1 : ((x1.toNat : Int) == 3) = false := by
            simp only [beq_eq_false_iff_ne, ne_eq]; intro h; exact g1 (UInt8.toNat_inj.1 (show x1.toNat = 3 by omega))
          rw [decide_eq_true g0, decide_eq_false g1] at hk0
          have hk1 : kb = false := hk0
          subst hk1
          clear hk0 g0 g1
          go_wp2_with fail
          go_meet
          exact ⟨rfl, rfl⟩
      · have e0 : ((x0.toNat : Int) == 1) = false := by
          simp only [beq_eq_false_iff_ne, ne_eq]; intro h; exact g0 (UInt8.toNat_inj.1 (show x0.toNat = 1 by omega))
        rw [decide_eq_false g0, Bool.false_and] at hk0
        have hk1 : kb = false := hk0
        subst hk1
        clear hk0 g0
        go_wp2_with fail
        go_meet
        exact ⟨rfl, rfl⟩
    case rest =>
      obtain ⟨rfl, hwx⟩ := hcut
      rw [hwx]
      clear hwx
      have hS : ∀ W, Below w8.heap.size w8 W → (W.cell? ⟨w.heap.size, 0, none⟩ = some (.slice A n c) ∧ W.cell? ⟨w.heap.size, 1, none⟩ = some (.int .i64 lm) ∧ W.cell? ⟨w.heap.size, 2, none⟩ = some (.string sn)) ∧ (W.cell? ⟨w2.heap.size, 0, none⟩ = some (.slice A2 n c2) ∧ W.cell? ⟨w2.heap.size, 1, none⟩ = some (.int .i64 lm) ∧ W.cell? ⟨w2.heap.size, 2, none⟩ = some (.string sn)) ∧ (W.cell? ⟨w5.heap.size, 0, none⟩ = some (.slice A5 yn c5) ∧ W.cell? ⟨w5.heap.size, 1, none⟩ = some (.int .i64 yl) ∧ W.cell? ⟨w5.heap.size, 2, none⟩ = some (.string yi)) ∧ (W.cell? ⟨w7.heap.size, 0, none⟩ = some (.slice A7 yn c7) ∧ W.cell? ⟨w7.heap.size, 1, none⟩ = some (.int .i64 yl) ∧ W.cell? ⟨w7.heap.size, 2, none⟩ = some (.string yi)) ∧ (convert 23 9 (.slice Ab s.length cb)).run Try.prog W = .ok (.string (str s)) W :=
        fun W hW => ⟨env_cells (blk_below Hg0.out (below_go hW hB7)), env_cells (blk_below Hwe.out hW), env_cells (blk_below hw57.out hW), env_cells (blk_below hw7.out hW), Hcv.out _ (below_go hW hB7)⟩
      have HS := Lib.hid hS
      clear hS hcv
      cases yo with
      | true =>
        have hyg : yg = 0 := Hyg.out
        subst hyg
        go_upto_region 10 with fail
        (refine Ord.wp_region_ord [(false, 0), (false, 1), (false, 2), (false, 3), (false, 4), (false, 5), (false, 6), (false, 7), (false, 8), (false, 9), (false, 10), (false, 11), (false, 12), (false, 14), (true, 13), (true, 15), (false, 16), (false, 17), (false, 18), (false, 19), (false, 21), (true, 20), (false, 22), (false, 23), (false, 24), (false, 25), (false, 26), (false, 27), (false, 28), (false, 29), (false, 30), (false, 33), (true, 31), (true, 32), (true, 34), (false, 35), (false, 36), (true, 37), (false, 38), (false, 39)] (fun W => (W.cell? ⟨w.heap.size, 0, none⟩ = some (.slice A n c) ∧ W.cell? ⟨w.heap.size, 1, none⟩ = some (.int .i64 lm) ∧ W.cell? ⟨w.heap.size, 2, none⟩ = some (.string sn)) ∧ (W.cell? ⟨w2.heap.size, 0, none⟩ = some (.slice A2 n c2) ∧ W.cell? ⟨w2.heap.size, 1, none⟩ = some (.int .i64 lm) ∧ W.cell? ⟨w2.heap.size, 2, none⟩ = some (.string sn)) ∧ (W.cell? ⟨w5.heap.size, 0, none⟩ = some (.slice A5 yn c5) ∧ W.cell? ⟨w5.heap.size, 1, none⟩ = some (.int .i64 yl) ∧ W.cell? ⟨w5.heap.size, 2, none⟩ = some (.string yi)) ∧ (W.cell? ⟨w7.heap.size, 0, none⟩ = some (.slice A7 yn c7) ∧ W.cell? ⟨w7.heap.size, 1, none⟩ = some (.int .i64 yl) ∧ W.cell? ⟨w7.heap.size, 2, none⟩ = some (.string yi)) ∧ (convert 23 9 (.slice Ab s.length cb)).run Try.prog W = .ok (.string (str s)) W) (by kernel_rfl) (by kernel_rfl) (by kernel_rfl) (by kernel_rfl) (by exact HS.out _ (Below.refl _ _).drew) ?_; simp only [Ord.ordOps, List.filterMap_cons, List.filterMap_nil, List.getElem?_toArray, List.getElem?_cons_succ, List.getElem?_cons_zero, Option.map_some]; repeat (first | (refine Ord.wpOrd_skip ?_ ?_; (focus (go_simp; (try (intro h; cases h)); done)); simp only [Act.put, List.setIfInBounds_toArray, List.set_cons_zero, List.set_cons_succ]) | (refine Ord.wpOrd_take (v := ?_) ?_ ?_ ?_; rotate_left; (focus (go_simp; done)); (focus (intro w' hSw; (try dsimp only at hSw); go_simp; (try with_reducible rfl); done)); simp only [Act.put, List.setIfInBounds_toArray, List.set_cons_zero, List.set_cons_succ])))
        (refine Ord.wpOrd_call ?_ (fun K hK => ?_); (focus (go_simp; done)); go_simp)
        go_at_call 35
        refine (How3.out _ _ (hr57.out.below (Below.refl _ _).drew)).mono ?_
        rintro e wa ⟨va, rfl, hra, hba⟩
        have hBa := below_go hba (Below.refl w8.heap.size w8).drew
        have Hra := Lib.hid (Rd.of_own hra)
        clear hba hra
        (refine hK _ _ (by exact HS.out _ hBa) ?_; clear hK K; (try simp only [Act.put, List.setIfInBounds_toArray, List.set_cons_zero, List.set_cons_succ]); repeat (first | (refine Ord.wpOrd_skip ?_ ?_; (focus (go_simp; (try (intro h; cases h)); done)); simp only [Act.put, List.setIfInBounds_toArray, List.set_cons_zero, List.set_cons_succ]) | (refine Ord.wpOrd_take (v := ?_) ?_ ?_ ?_; rotate_left; (focus (go_simp; done)); (focus (intro w' hSw; (try dsimp only at hSw); go_simp; (try with_reducible rfl); done)); simp only [Act.put, List.setIfInBounds_toArray, List.set_cons_zero, List.set_cons_succ])))
        (refine Ord.wpOrd_call ?_ (fun K hK => ?_); (focus (go_simp; done)); go_simp)
        go_at_call 42
        refine (Hsa3.out _ _ _ Hra.out (hr7'.out.below hBa)).mono ?_
        rintro e wb ⟨rfl, hbb⟩
        have hBb := below_go hbb hBa
        clear hbb hBa
        (refine hK _ _ (by exact HS.out _ hBb) ?_; clear hK K; (try simp only [Act.put, List.setIfInBounds_toArray, List.set_cons_zero, List.set_cons_succ]); repeat (first | (refine Ord.wpOrd_skip ?_ ?_; (focus (go_simp; (try (intro h; cases h)); done)); simp only [Act.put, List.setIfInBounds_toArray, List.set_cons_zero, List.set_cons_succ]) | (refine Ord.wpOrd_take (v := ?_) ?_ ?_ ?_; rotate_left; (focus (go_simp; done)); (focus (intro w' hSw; (try dsimp only at hSw); go_simp; (try with_reducible rfl); done)); simp only [Act.put, List.setIfInBounds_toArray, List.set_cons_zero, List.set_cons_succ])))
        (refine Ord.wpOrd_call ?_ (fun K hK => ?_); (focus (go_simp; done)); go_simp)
        go_at_call 43
        refine (His.out _).mono ?_
        rintro e wc ⟨rfl, hbc⟩
        have hBc := below_go hbc hBb
        clear hbc hBb
        (refine hK _ _ (by exact HS.out _ hBc) ?_; clear hK K; (try simp only [Act.put, List.setIfInBounds_toArray, List.set_cons_zero, List.set_cons_succ]); repeat (first | (refine Ord.wpOrd_skip ?_ ?_; (focus (go_simp; (try (intro h; cases h)); done)); simp only [Act.put, List.setIfInBounds_toArray, List.set_cons_zero, List.set_cons_succ]) | (refine Ord.wpOrd_take (v := ?_) ?_ ?_ ?_; rotate_left; (focus (go_simp; done)); (focus (intro w' hSw; (try dsimp only at hSw); go_simp; (try with_reducible rfl); done)); simp only [Act.put, List.setIfInBounds_toArray, List.set_cons_zero, List.set_cons_succ])))
        (refine Ord.wpOrd_call ?_ (fun K hK => ?_); (focus (go_simp; done)); go_simp)
        go_at_call 44
        refine (Hpc.out _ (below_go hBc hB7)).mono ?_
        rintro e wd ⟨vd, rfl, hrd, hbd⟩
        have hBd := below_go hbd hBc
        have Hrd2 := Lib.hid (Rd.of_own hrd)
        clear hbd hBc hrd
        (refine hK _ _ (by exact HS.out _ hBd) ?_; clear hK K; (try simp only [Act.put, List.setIfInBounds_toArray, List.set_cons_zero, List.set_cons_succ]); repeat (first | (refine Ord.wpOrd_skip ?_ ?_; (focus (go_simp; (try (intro h; cases h)); done)); simp only [Act.put, List.setIfInBounds_toArray, List.set_cons_zero, List.set_cons_succ]) | (refine Ord.wpOrd_take (v := ?_) ?_ ?_ ?_; rotate_left; (focus (go_simp; done)); (focus (intro w' hSw; (try dsimp only at hSw); go_simp; (try with_reducible rfl); done)); simp only [Act.put, List.setIfInBounds_toArray, List.set_cons_zero, List.set_cons_succ])))
        (refine Ord.wpOrd_call ?_ (fun K hK => ?_); (focus (go_simp; done)); go_simp)
        go_at_call 35
        refine (How2.out _ _ Hrd2.out hn8).mono ?_
        rintro e we ⟨ve, rfl, hre, hbe⟩
        have hBe := below_go hbe hBd
        have Hre2 := Lib.hid (Rd.of_own hre)
        clear hbe hBd hre
        (refine hK _ _ (by exact HS.out _ hBe) ?_; clear hK K; (try simp only [Act.put, List.setIfInBounds_toArray, List.set_cons_zero, List.set_cons_succ]); repeat (first | (refine Ord.wpOrd_skip ?_ ?_; (focus (go_simp; (try (intro h; cases h)); done)); simp only [Act.put, List.setIfInBounds_toArray, List.set_cons_zero, List.set_cons_succ]) | (refine Ord.wpOrd_take (v := ?_) ?_ ?_ ?_; rotate_left; (focus (go_simp; done)); (focus (intro w' hSw; (try dsimp only at hSw); go_simp; (try with_reducible rfl); done)); simp only [Act.put, List.setIfInBounds_toArray, List.set_cons_zero, List.set_cons_succ])))
        (refine Ord.wpOrd_call ?_ (fun K hK => ?_); (focus (go_simp; done)); go_simp)
        go_at_call 42
        refine (Hsa.out _ _ _ Hre2.out (Hre.out.below hBe)).mono ?_
        rintro e wf ⟨rfl, hbf⟩
        have hBf := below_go hbf hBe
        clear hbf hBe
        (refine hK _ _ (by exact HS.out _ hBf) ?_; clear hK K; (try simp only [Act.put, List.setIfInBounds_toArray, List.set_cons_zero, List.set_cons_succ]); repeat (first | (refine Ord.wpOrd_skip ?_ ?_; (focus (go_simp; (try (intro h; cases h)); done)); simp only [Act.put, List.setIfInBounds_toArray, List.set_cons_zero, List.set_cons_succ]) | (refine Ord.wpOrd_take (v := ?_) ?_ ?_ ?_; rotate_left; (focus (go_simp; done)); (focus (intro w' hSw; (try dsimp only at hSw); go_simp; (try with_reducible rfl); done)); simp only [Act.put, List.setIfInBounds_toArray, List.set_cons_zero, List.set_cons_succ])))
        (refine Ord.wpOrd_call ?_ (fun K hK => ?_); (focus (go_simp; done)); go_simp)
        go_at_call 45
        refine (one_any _).mono ?_
        rintro e wg ⟨rfl, hbg⟩
        have hBg := below_go hbg hBf
        clear hbg hBf
        (refine hK _ _ (by exact HS.out _ hBg) ?_; clear hK K; (try simp only [Act.put, List.setIfInBounds_toArray, List.set_cons_zero, List.set_cons_succ]); repeat (first | (refine Ord.wpOrd_skip ?_ ?_; (focus (go_simp; (try (intro h; cases h)); done)); simp only [Act.put, List.setIfInBounds_toArray, List.set_cons_zero, List.set_cons_succ]) | (refine Ord.wpOrd_take (v := ?_) ?_ ?_ ?_; rotate_left; (focus (go_simp; done)); (focus (intro w' hSw; (try dsimp only at hSw); go_simp; (try with_reducible rfl); done)); simp only [Act.put, List.setIfInBounds_toArray, List.set_cons_zero, List.set_cons_succ])))
        refine Ord.wpOrd_nil ?_
        go_wp2_with fail
        go_ret
        exact ⟨rfl, below_go hBg (below_go hB7 hB0)⟩
      | false =>
        have hyg : yg = 11 := Hyg.out
        subst hyg
        go_upto_region 10 with fail
        (refine Ord.wp_region_ord [(false, 0), (false, 1), (false, 2), (false, 3), (false, 4), (false, 5), (false, 6), (false, 7), (false, 8), (false, 9), (false, 10), (false, 11), (false, 12), (false, 14), (true, 13), (true, 15), (false, 16), (false, 17), (false, 18), (false, 19), (false, 21), (true, 20), (false, 22), (false, 23), (false, 24), (false, 25), (false, 26), (false, 27), (false, 28), (false, 29), (false, 30), (false, 33), (true, 31), (true, 32), (true, 34), (false, 35), (false, 36), (true, 37), (false, 38), (false, 39)] (fun W => (W.cell? ⟨w.heap.size, 0, none⟩ = some (.slice A n c) ∧ W.cell? ⟨w.heap.size, 1, none⟩ = some (.int .i64 lm) ∧ W.cell? ⟨w.heap.size, 2, none⟩ = some (.string sn)) ∧ (W.cell? ⟨w2.heap.size, 0, none⟩ = some (.slice A2 n c2) ∧ W.cell? ⟨w2.heap.size, 1, none⟩ = some (.int .i64 lm) ∧ W.cell? ⟨w2.heap.size, 2, none⟩ = some (.string sn)) ∧ (W.cell? ⟨w5.heap.size, 0, none⟩ = some (.slice A5 yn c5) ∧ W.cell? ⟨w5.heap.size, 1, none⟩ = some (.int .i64 yl) ∧ W.cell? ⟨w5.heap.size, 2, none⟩ = some (.string yi)) ∧ (W.cell? ⟨w7.heap.size, 0, none⟩ = some (.slice A7 yn c7) ∧ W.cell? ⟨w7.heap.size, 1, none⟩ = some (.int .i64 yl) ∧ W.cell? ⟨w7.heap.size, 2, none⟩ = some (.string yi)) ∧ (convert 23 9 (.slice Ab s.length cb)).run Try.prog W = .ok (.string (str s)) W) (by kernel_rfl) (by kernel_rfl) (by kernel_rfl) (by kernel_rfl) (by exact HS.out _ (Below.refl _ _).drew) ?_; simp only [Ord.ordOps, List.filterMap_cons, List.filterMap_nil, List.getElem?_toArray, List.getElem?_cons_succ, List.getElem?_cons_zero, Option.map_some]; repeat (first | (refine Ord.wpOrd_skip ?_ ?_; (focus (go_simp; (try (intro h; cases h)); done)); simp only [Act.put, List.setIfInBounds_toArray, List.set_cons_zero, List.set_cons_succ]) | (refine Ord.wpOrd_take (v := ?_) ?_ ?_ ?_; rotate_left; (focus (go_simp; done)); (focus (intro w' hSw; (try dsimp only at hSw); go_simp; (try with_reducible rfl); done)); simp only [Act.put, List.setIfInBounds_toArray, List.set_cons_zero, List.set_cons_succ])))
        (refine Ord.wpOrd_call ?_ (fun K hK => ?_); (focus (go_simp; done)); go_simp)
        go_at_call 35
        refine (How3.out _ _ (hr57.out.below (Below.refl _ _).drew)).mono ?_
        rintro e wa ⟨va, rfl, hra, hba⟩
        have hBa := below_go hba (Below.refl w8.heap.size w8).drew
        have Hra := Lib.hid (Rd.of_own hra)
        clear hba hra
        (refine hK _ _ (by exact HS.out _ hBa) ?_; clear hK K; (try simp only [Act.put, List.setIfInBounds_toArray, List.set_cons_zero, List.set_cons_succ]); repeat (first | (refine Ord.wpOrd_skip ?_ ?_; (focus (go_simp; (try (intro h; cases h)); done)); simp only [Act.put, List.setIfInBounds_toArray, List.set_cons_zero, List.set_cons_succ]) | (refine Ord.wpOrd_take (v := ?_) ?_ ?_ ?_; rotate_left; (focus (go_simp; done)); (focus (intro w' hSw; (try dsimp only at hSw); go_simp; (try with_reducible rfl); done)); simp only [Act.put, List.setIfInBounds_toArray, List.set_cons_zero, List.set_cons_succ])))
        (refine Ord.wpOrd_call ?_ (fun K hK => ?_); (focus (go_simp; done)); go_simp)
        go_at_call 42
        refine (Hsa3.out _ _ _ Hra.out (hr7'.out.below hBa)).mono ?_
        rintro e wb ⟨rfl, hbb⟩
        have hBb := below_go hbb hBa
        clear hbb hBa
        (refine hK _ _ (by exact HS.out _ hBb) ?_; clear hK K; (try simp only [Act.put, List.setIfInBounds_toArray, List.set_cons_zero, List.set_cons_succ]); repeat (first | (refine Ord.wpOrd_skip ?_ ?_; (focus (go_simp; (try (intro h; cases h)); done)); simp only [Act.put, List.setIfInBounds_toArray, List.set_cons_zero, List.set_cons_succ]) | (refine Ord.wpOrd_take (v := ?_) ?_ ?_ ?_; rotate_left; (focus (go_simp; done)); (focus (intro w' hSw; (try dsimp only at hSw); go_simp; (try with_reducible rfl); done)); simp only [Act.put, List.setIfInBounds_toArray, List.set_cons_zero, List.set_cons_succ])))
        (refine Ord.wpOrd_call ?_ (fun K hK => ?_); (focus (go_simp; done)); go_simp)
        go_at_call 43
        refine (His.out _).mono ?_
        rintro e wc ⟨rfl, hbc⟩
        have hBc := below_go hbc hBb
        clear hbc hBb
        (refine hK _ _ (by exact HS.out _ hBc) ?_; clear hK K; (try simp only [Act.put, List.setIfInBounds_toArray, List.set_cons_zero, List.set_cons_succ]); repeat (first | (refine Ord.wpOrd_skip ?_ ?_; (focus (go_simp; (try (intro h; cases h)); done)); simp only [Act.put, List.setIfInBounds_toArray, List.set_cons_zero, List.set_cons_succ]) | (refine Ord.wpOrd_take (v := ?_) ?_ ?_ ?_; rotate_left; (focus (go_simp; done)); (focus (intro w' hSw; (try dsimp only at hSw); go_simp; (try with_reducible rfl); done)); simp only [Act.put, List.setIfInBounds_toArray, List.set_cons_zero, List.set_cons_succ])))
        (refine Ord.wpOrd_call ?_ (fun K hK => ?_); (focus (go_simp; done)); go_simp)
        go_at_call 44
        refine (Hpc.out _ (below_go hBc hB7)).mono ?_
        rintro e wd ⟨vd, rfl, hrd, hbd⟩
        have hBd := below_go hbd hBc
        have Hrd2 := Lib.hid (Rd.of_own hrd)
        clear hbd hBc hrd
        (refine hK _ _ (by exact HS.out _ hBd) ?_; clear hK K; (try simp only [Act.put, List.setIfInBounds_toArray, List.set_cons_zero, List.set_cons_succ]); repeat (first | (refine Ord.wpOrd_skip ?_ ?_; (focus (go_simp; (try (intro h; cases h)); done)); simp only [Act.put, List.setIfInBounds_toArray, List.set_cons_zero, List.set_cons_succ]) | (refine Ord.wpOrd_take (v := ?_) ?_ ?_ ?_; rotate_left; (focus (go_simp; done)); (focus (intro w' hSw; (try dsimp only at hSw); go_simp; (try with_reducible rfl); done)); simp only [Act.put, List.setIfInBounds_toArray, List.set_cons_zero, List.set_cons_succ])))
        (refine Ord.wpOrd_call ?_ (fun K hK => ?_); (focus (go_simp; done)); go_simp)
        go_at_call 35
        refine (How2.out _ _ Hrd2.out hn8).mono ?_
        rintro e we ⟨ve, rfl, hre, hbe⟩
        have hBe := below_go hbe hBd
        have Hre2 := Lib.hid (Rd.of_own hre)
        clear hbe hBd hre
        (refine hK _ _ (by exact HS.out _ hBe) ?_; clear hK K; (try simp only [Act.put, List.setIfInBounds_toArray, List.set_cons_zero, List.set_cons_succ]); repeat (first | (refine Ord.wpOrd_skip ?_ ?_; (focus (go_simp; (try (intro h; cases h)); done)); simp only [Act.put, List.setIfInBounds_toArray, List.set_cons_zero, List.set_cons_succ]) | (refine Ord.wpOrd_take (v := ?_) ?_ ?_ ?_; rotate_left; (focus (go_simp; done)); (focus (intro w' hSw; (try dsimp only at hSw); go_simp; (try with_reducible rfl); done)); simp only [Act.put, List.setIfInBounds_toArray, List.set_cons_zero, List.set_cons_succ])))
        (refine Ord.wpOrd_call ?_ (fun K hK => ?_); (focus (go_simp; done)); go_simp)
        go_at_call 42
        refine (Hsa.out _ _ _ Hre2.out (Hre.out.below hBe)).mono ?_
        rintro e wf ⟨rfl, hbf⟩
        have hBf := below_go hbf hBe
        clear hbf hBe
        (refine hK _ _ (by exact HS.out _ hBf) ?_; clear hK K; (try simp only [Act.put, List.setIfInBounds_toArray, List.set_cons_zero, List.set_cons_succ]); repeat (first | (refine Ord.wpOrd_skip ?_ ?_; (focus (go_simp; (try (intro h; cases h)); done)); simp only [Act.put, List.setIfInBounds_toArray, List.set_cons_zero, List.set_cons_succ]) | (refine Ord.wpOrd_take (v := ?_) ?_ ?_ ?_; rotate_left; (focus (go_simp; done)); (focus (intro w' hSw; (try dsimp only at hSw); go_simp; (try with_reducible rfl); done)); simp only [Act.put, List.setIfInBounds_toArray, List.set_cons_zero, List.set_cons_succ])))
        (refine Ord.wpOrd_call ?_ (fun K hK => ?_); (focus (go_simp; done)); go_simp)
        go_at_call 45
        refine (one_any _).mono ?_
        rintro e wg ⟨rfl, hbg⟩
        have hBg := below_go hbg hBf
        clear hbg hBf
        (refine hK _ _ (by exact HS.out _ hBg) ?_; clear hK K; (try simp only [Act.put, List.setIfInBounds_toArray, List.set_cons_zero, List.set_cons_succ]); repeat (first | (refine Ord.wpOrd_skip ?_ ?_; (focus (go_simp; (try (intro h; cases h)); done)); simp only [Act.put, List.setIfInBounds_toArray, List.set_cons_zero, List.set_cons_succ]) | (refine Ord.wpOrd_take (v := ?_) ?_ ?_ ?_; rotate_left; (focus (go_simp; done)); (focus (intro w' hSw; (try dsimp only at hSw); go_simp; (try with_reducible rfl); done)); simp only [Act.put, List.setIfInBounds_toArray, List.set_cons_zero, List.set_cons_succ])))
        refine Ord.wpOrd_nil ?_
        go_wp2_with fail
        go_ret
        exact ⟨rfl, below_go hBg (below_go hB7 hB0)⟩
end Go.Proofs.Ytcjabfdjngekfaa.Rel
