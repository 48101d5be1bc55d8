/- Walks of layer 26: Is, Pass. -/
import Derived.Test.YtcjabfdjngekfaaRelW6
set_option linter.unusedVariables false
set_option linter.unusedSimpArgs false
namespace Go.Proofs.Ytcjabfdjngekfaa.Rel
open Go.RowKit Go.Proofs.Ytcjabfdjngekfaa.Wd Go.Proofs.Ytcjabfdjngekfaa.Use Go.Proofs.Ytcjabfdjngekfaa.Lay

theorem is_any (s : List UInt8) (w : World) : Calls Try.prog 43 #[.string (str s)] w fun e w' => e = .returned (.bool (decide (kindOf s = 3))) ∧ Below w.heap.size w w' := by
  obtain ⟨kd, hkd⟩ : ∃ k, k = kindOf s := ⟨_, rfl⟩
  have hnum := fun W g (h : RdrAt W g ⟨s, 0⟩) => Number_any g ⟨s, 0⟩ W h
  rw [← hkd]
  simp only [show (Rdr.number ⟨s, 0⟩).1 = kd from hkd.symm] at hnum
  have Hnum := Lib.hid hnum
  clear hnum hkd
  go_enter Try.func43, Try.ntmps43
  go_wp2_with (first
    | (go_at_call 102; refine (Read_any s _).mono ?_; rintro e w1 ⟨rfl, hr1, hb1⟩)
    | (go_at_call 103; refine (Hnum.out _ _ hr1).mono ?_; rintro e w2 ⟨rfl, hr2, hg2⟩))
  go_ret
  refine ⟨ret_b ?_, hb1.grown hg2 hb1.size (fun k hk => by injection hk with hk; omega)⟩
  rw [Bool.eq_iff_iff]; simp; omega
set_option maxRecDepth 100000 in
set_option maxHeartbeats 8000000 in
theorem pass_own (e : E) (hv : Value) (by_ : Int) (w : World) (he : EIn w e hv) (hl : (e.hops.length + 1) * 8 ≤ 140737488355328) :
    Calls Try.prog 46 #[.agg #[hv, .int .i64 e.limit, .string (str e.inner)], .int .i64 by_] w fun r w' => ∃ hv', r = .returned (.tuple #[.agg #[hv', .int .i64 (e.pass by_).1.limit, .string (str (e.pass by_).1.inner)], .int .i64 (e.pass by_).2]) ∧ w'.ownsRow w.heap.size 3 1 hv' (e.pass by_).1.hops.length (is (e.pass by_).1.hops) ∧ Below w.heap.size w w' := by
  obtain ⟨W0, hW0⟩ : ∃ W, W = (w.alloc (.cells #[hv, .int .i64 e.limit, .string (str e.inner)] 56)).alloc (.cells #[.slice none 0 0, .int .i64 0, .string ⟨#[]⟩] 56) := ⟨_, rfl⟩
  have hB0 : Below w.heap.size w W0 := by rw [hW0]; exact below_two _ _ _
  have hg0 : W0.heap[w.heap.size]? = some (.cells #[hv, .int .i64 e.limit, .string (str e.inner)] 56 (0, 0)) := by rw [hW0]; exact blk_alloc (heap_alloc_new _ _) _
  have hz0 : W0.heap[w.heap.size + 1]? = some (.cells #[.slice none 0 0, .int .i64 0, .string ⟨#[]⟩] 56 (0, 0)) := by rw [hW0]; exact alloc_at _ _ _
  have he0 := he.below hB0
  have hri := right_any e hv W0 he0
  have hpass : e.pass by_ = if !e.right || !peerB by_ then (E.zero, 2) else if e.hops.contains by_ then (E.zero, 14) else if (e.hops.length : Int) = e.limit then (E.zero, 15) else (⟨e.hops ++ [by_], e.limit, e.inner⟩, 0) := rfl
  have hh := he0.hops
  obtain ⟨A, c, rfl, hc1, hc2, -⟩ := he.hops.slice_
  unfold maxLen at hc2
  have hpe := fun W => peer_any by_ W
  have hco := fun W (h : Rd W 1 (.slice A e.hops.length c) e.hops.length (is e.hops)) => contains_any (.slice A e.hops.length c) e.hops by_ W h
  generalize E.pass e by_ = ps at hpass ⊢
  generalize e.right = rt at hri hpass
  generalize peerB by_ = pb at hpe hpass
  generalize e.hops.contains by_ = cb at hco hpass
  obtain ⟨hops, limit, inner⟩ := e
  simp only at hh hc1 hl hg0 hW0 hri hco hpass ⊢
  obtain ⟨sn, hsn⟩ : ∃ s, s = str inner := ⟨_, rfl⟩
  rw [← hsn] at hg0 hW0 hri
  have Hsn := Lib.hid hsn
  try rw [← hsn]
  clear hsn
  obtain ⟨n, hn⟩ : ∃ n, n = hops.length := ⟨_, rfl⟩
  rw [← hn] at hh hc1 hl hg0 hW0 hri hco hpass ⊢
  have HW0 := Lib.hid hW0
  have Hg0 := Lib.hid hg0
  have Hz0 := Lib.hid hz0
  have Hri := Lib.hid hri
  have Hpe := Lib.hid hpe
  have Hco := Lib.hid hco
  have Hh := Lib.hid hh
  have Hn := Lib.hid hn
  obtain ⟨k0, k1, k2⟩ := env_cells hg0
  clear hW0 hg0 hz0 hri hpe hco hh hn he he0
  cases rt with
  | false =>
    have HP := Lib.hid hpass
    simp only [Bool.not_false, Bool.true_or, if_true] at HP
    clear hpass
    go_enter Try.func46, Try.ntmps46
    go_upto_region 1 with fail
    rw [← HW0.out]
    go_wp2_with (first
      | (go_at_call 37; refine Hri.out.mono ?_; rintro e w1 ⟨rfl, hb1⟩; have Z1 := Lib.hid (blk_below Hz0.out hb1); have E1 := Lib.hid (blk_below Hg0.out hb1); have hB1 := below_go hb1 hB0; clear k0 k1 k2; obtain ⟨k0, k1, k2⟩ := env_cells E1.out; obtain ⟨z0, z1, z2⟩ := env_cells Z1.out; have q0 := blk_frozen Z1.out 0; have q1 := blk_frozen Z1.out 1; have q2 := blk_frozen Z1.out 2; have hR1 := Lib.hid (Hh.out.below hb1); have hb01 := hb1; clear hb1))
    refine bodyPost_ret (v := .tuple #[.agg [Value.slice none 0 0, .int .i64 0, .string ⟨#[]⟩].toArray, .int .i64 2]) (Use.results_cell_tmp rfl _ _ (w.heap.size + 1) [.slice none 0 0, .int .i64 0, .string ⟨#[]⟩] _ _ rfl rfl (range_all (set3 Z1.out)) Try.underlying56 rfl (by kernel_rfl)) rfl ?_
    rw [HP.out]
    exact ⟨.slice none 0 0, rfl, own_nil _ _ _ _, below_set (below_set (below_set hB1 (by omega) _ _) (by omega) _ _) (by omega) _ _⟩
  | true =>
  cases pb with
  | false =>
    have HP := Lib.hid hpass
    simp only [Bool.not_false, Bool.not_true, Bool.false_or, if_true] at HP
    clear hpass
    go_enter Try.func46, Try.ntmps46
    go_upto_region 1 with fail
    rw [← HW0.out]
    go_wp2_with (first
      | (go_at_call 37; refine Hri.out.mono ?_; rintro e w1 ⟨rfl, hb1⟩; have Z1 := Lib.hid (blk_below Hz0.out hb1); have E1 := Lib.hid (blk_below Hg0.out hb1); have hB1 := below_go hb1 hB0; clear k0 k1 k2; obtain ⟨k0, k1, k2⟩ := env_cells E1.out; obtain ⟨z0, z1, z2⟩ := env_cells Z1.out; have q0 := blk_frozen Z1.out 0; have q1 := blk_frozen Z1.out 1; have q2 := blk_frozen Z1.out 2; have hR1 := Lib.hid (Hh.out.below hb1); have hb01 := hb1; clear hb1)
      | (go_at_call 98; refine (Hpe.out _).mono ?_; rintro e w2 ⟨rfl, rfl⟩))
    refine bodyPost_ret (v := .tuple #[.agg [Value.slice none 0 0, .int .i64 0, .string ⟨#[]⟩].toArray, .int .i64 2]) (Use.results_cell_tmp rfl _ _ (w.heap.size + 1) [.slice none 0 0, .int .i64 0, .string ⟨#[]⟩] _ _ rfl rfl (range_all (set3 Z1.out)) Try.underlying56 rfl (by kernel_rfl)) rfl ?_
    rw [HP.out]
    exact ⟨.slice none 0 0, rfl, own_nil _ _ _ _, below_set (below_set (below_set hB1 (by omega) _ _) (by omega) _ _) (by omega) _ _⟩
  | true =>
  cases cb with
  | true =>
    have HP := Lib.hid hpass
    simp only [Bool.not_true, Bool.or_self, Bool.false_eq_true, if_false, if_true] at HP
    clear hpass
    go_enter Try.func46, Try.ntmps46
    go_upto_region 1 with fail
    rw [← HW0.out]
    go_wp2_with (first
      | (go_at_call 37; refine Hri.out.mono ?_; rintro e w1 ⟨rfl, hb1⟩; have Z1 := Lib.hid (blk_below Hz0.out hb1); have E1 := Lib.hid (blk_below Hg0.out hb1); have hB1 := below_go hb1 hB0; clear k0 k1 k2; obtain ⟨k0, k1, k2⟩ := env_cells E1.out; obtain ⟨z0, z1, z2⟩ := env_cells Z1.out; have q0 := blk_frozen Z1.out 0; have q1 := blk_frozen Z1.out 1; have q2 := blk_frozen Z1.out 2; have hR1 := Lib.hid (Hh.out.below hb1); have hb01 := hb1; clear hb1)
      | (go_at_call 98; refine (Hpe.out _).mono ?_; rintro e w2 ⟨rfl, rfl⟩)
      | (go_at_call 99; refine (Hco.out _ hR1.out).mono ?_; rintro e w2 ⟨rfl, rfl⟩))
    refine bodyPost_ret (v := .tuple #[.agg [Value.slice none 0 0, .int .i64 0, .string ⟨#[]⟩].toArray, .int .i64 14]) (Use.results_cell_tmp rfl _ _ (w.heap.size + 1) [.slice none 0 0, .int .i64 0, .string ⟨#[]⟩] _ _ rfl rfl (range_all (set3 Z1.out)) Try.underlying56 rfl (by kernel_rfl)) rfl ?_
    rw [HP.out]
    exact ⟨.slice none 0 0, rfl, own_nil _ _ _ _, below_set (below_set (below_set hB1 (by omega) _ _) (by omega) _ _) (by omega) _ _⟩
  | false =>
  by_cases hfl : (n : Int) = limit
  · have HP := Lib.hid hpass
    simp only [Bool.not_true, Bool.or_self, Bool.false_eq_true, if_false, if_pos hfl] at HP
    have hfd : ((n : Int) == limit) = true := by simpa using hfl
    clear hpass hfl
    go_enter Try.func46, Try.ntmps46
    go_upto_region 1 with fail
    rw [← HW0.out]
    go_wp2_with (first
      | (go_at_call 37; refine Hri.out.mono ?_; rintro e w1 ⟨rfl, hb1⟩; have Z1 := Lib.hid (blk_below Hz0.out hb1); have E1 := Lib.hid (blk_below Hg0.out hb1); have hB1 := below_go hb1 hB0; clear k0 k1 k2; obtain ⟨k0, k1, k2⟩ := env_cells E1.out; obtain ⟨z0, z1, z2⟩ := env_cells Z1.out; have q0 := blk_frozen Z1.out 0; have q1 := blk_frozen Z1.out 1; have q2 := blk_frozen Z1.out 2; have hR1 := Lib.hid (Hh.out.below hb1); have hb01 := hb1; clear hb1)
      | (go_at_call 98; refine (Hpe.out _).mono ?_; rintro e w2 ⟨rfl, rfl⟩)
      | (go_at_call 99; refine (Hco.out _ hR1.out).mono ?_; rintro e w2 ⟨rfl, rfl⟩))
    refine bodyPost_ret (v := .tuple #[.agg [Value.slice none 0 0, .int .i64 0, .string ⟨#[]⟩].toArray, .int .i64 15]) (Use.results_cell_tmp rfl _ _ (w.heap.size + 1) [.slice none 0 0, .int .i64 0, .string ⟨#[]⟩] _ _ rfl rfl (range_all (set3 Z1.out)) Try.underlying56 rfl (by kernel_rfl)) rfl ?_
    rw [HP.out]
    exact ⟨.slice none 0 0, rfl, own_nil _ _ _ _, below_set (below_set (below_set hB1 (by omega) _ _) (by omega) _ _) (by omega) _ _⟩
  · have HP := Lib.hid hpass
    simp only [Bool.not_true, Bool.or_self, Bool.false_eq_true, if_false, if_neg hfl] at HP
    have hfd : ((n : Int) == limit) = false := by simpa using hfl
    clear hpass hfl
    go_enter Try.func46, Try.ntmps46
    go_upto_region 1 with fail
    rw [← HW0.out]
    go_upto_region 7 with (first
      | (go_at_call 37; refine Hri.out.mono ?_; rintro e w1 ⟨rfl, hb1⟩; have Z1 := Lib.hid (blk_below Hz0.out hb1); have E1 := Lib.hid (blk_below Hg0.out hb1); have hB1 := below_go hb1 hB0; clear k0 k1 k2; obtain ⟨k0, k1, k2⟩ := env_cells E1.out; obtain ⟨z0, z1, z2⟩ := env_cells Z1.out; have q0 := blk_frozen Z1.out 0; have q1 := blk_frozen Z1.out 1; have q2 := blk_frozen Z1.out 2; have hR1 := Lib.hid (Hh.out.below hb1); have hb01 := hb1; clear hb1)
      | (go_at_call 98; refine (Hpe.out _).mono ?_; rintro e w2 ⟨rfl, rfl⟩)
      | (go_at_call 99; refine (Hco.out _ hR1.out).mono ?_; rintro e w2 ⟨rfl, rfl⟩))
    have hcel : ∀ W, Below w2.heap.size w2 W → W.cell? ⟨w.heap.size, 0, none⟩ = some (.slice A n c) ∧ W.cell? ⟨w.heap.size, 1, none⟩ = some (.int .i64 limit) ∧ W.cell? ⟨w.heap.size, 2, none⟩ = some (.string sn) := fun W hW => env_cells (blk_below E1.out hW)
    have hcl : ∀ W, Below w2.heap.size w2 W → Calls Try.prog 111 #[.slice A n c] W fun e w' => ∃ v', e = .returned v' ∧ w'.ownsRow W.heap.size 3 1 v' n (is hops) ∧ Below W.heap.size W w' := by
      intro W hW
      have h := clone_any (.slice A n c) hops W (by have h := hR1.out.below hW; rw [← Hn.out]; exact h) (by rw [← Hn.out]; omega)
      rw [← Hn.out] at h
      exact h
    have hnw : ∀ W v, Rd W 1 v (n + 1) (is (hops ++ [by_])) → Calls Try.prog 44 #[.string sn, .int .i64 limit, v] W fun e w' => ∃ v', e = .returned (.agg #[v', .int .i64 limit, .string sn]) ∧ w'.ownsRow W.heap.size 3 1 v' (n + 1) (is (hops ++ [by_])) ∧ Below W.heap.size W w' := by
      intro W v h
      have hln : (hops ++ [by_]).length = n + 1 := by rw [List.length_append, ← Hn.out]; rfl
      have h2 := new_any (hops ++ [by_]) limit sn v W (by rw [hln]; exact h) (by rw [hln]; omega)
      rw [hln] at h2
      exact h2
    have Hcel := Lib.hid hcel
    have Hcl := Lib.hid hcl
    have Hnw := Lib.hid hnw
    have hlz : w.heap.size + 1 < w2.heap.size := blk_lt Z1.out
    clear hcel hcl hnw z0 z1 z2 q0 q1 q2 k0 k1 k2
    obtain ⟨k0, k1, k2⟩ := Hcel.out w2.drew (Below.refl _ _).drew
    (refine Ord.wp_region_tree (Ord.OT.of [(false, 0), (false, 1), (false, 2), (false, 3), (false, 4), (false, 5), (false, 7)] (Ord.OT.two 6 (Ord.OT.of [(true, 8), (true, 9), (true, 10), (true, 11), (false, 12)] Ord.OT.nil) 8 (Ord.OT.of [(true, 6), (true, 9), (true, 10), (true, 11), (false, 12)] Ord.OT.nil))) (fun W => W.cell? ⟨w.heap.size, 0, none⟩ = some (.slice A n c) ∧ W.cell? ⟨w.heap.size, 1, none⟩ = some (.int .i64 limit) ∧ W.cell? ⟨w.heap.size, 2, none⟩ = some (.string sn)) (by kernel_rfl) (by kernel_rfl) (by kernel_rfl) (by kernel_rfl) (by exact ⟨k0, k1, k2⟩) ?_; simp only [Ord.OT.of, Ord.OT.opers, List.getElem?_toArray, List.getElem?_cons_succ, List.getElem?_cons_zero]; repeat (first | (refine Ord.wpT_skip ?_ ?_; (focus (go_simp; (try (intro h; cases h)); done)); simp only [Act.put, List.setIfInBounds_toArray, List.set_cons_zero, List.set_cons_succ]) | (refine Ord.wpT_take (v := ?_) ?_ ?_ ?_; rotate_left; (focus (go_simp; done)); (focus (intro w' hSw; (try dsimp only at hSw); go_simp; (try with_reducible rfl); done)); simp only [Act.put, List.setIfInBounds_toArray, List.set_cons_zero, List.set_cons_succ])))
    refine Ord.wpT_two ?_ ?_
    · (refine Ord.wpT_call ?_ (fun K hK => ?_); (focus (go_simp; done)); go_simp)
      go_at_call 111
      refine (Hcl.out _ (Below.refl _ _).drew).mono ?_
      rintro e w3 ⟨v3, rfl, ho3, hb3⟩
      have hB3 := below_go hb3 (Below.refl w2.heap.size w2).drew
      have Ho3 := Lib.hid (show w3.ownsRow w2.heap.size 3 1 v3 n (is hops) from ho3)
      clear hb3 ho3
      (refine hK _ _ (by exact Hcel.out _ hB3) ?_; clear hK K; (try simp only [Act.put, List.setIfInBounds_toArray, List.set_cons_zero, List.set_cons_succ]); repeat (first | (refine Ord.wpT_skip ?_ ?_; (focus (go_simp; (try (intro h; cases h)); done)); simp only [Act.put, List.setIfInBounds_toArray, List.set_cons_zero, List.set_cons_succ]) | (refine Ord.wpT_take (v := ?_) ?_ ?_ ?_; rotate_left; (focus (go_simp; done)); (focus (intro w' hSw; (try dsimp only at hSw); go_simp; (try with_reducible rfl); done)); simp only [Act.put, List.setIfInBounds_toArray, List.set_cons_zero, List.set_cons_succ])))
      have hB4 : Below w2.heap.size w2 (w3.alloc (.cells #[.int .i64 by_] 3)) := hB3.alloc hB3.size _
      (refine Ord.wpT_call ?_ (fun K hK => ?_); (focus (go_simp; done)); go_simp)
      (refine hK _ _ (by exact Hcel.out _ hB4) ?_; clear hK K; (try simp only [Act.put, List.setIfInBounds_toArray, List.set_cons_zero, List.set_cons_succ]); repeat (first | (refine Ord.wpT_skip ?_ ?_; (focus (go_simp; (try (intro h; cases h)); done)); simp only [Act.put, List.setIfInBounds_toArray, List.set_cons_zero, List.set_cons_succ]) | (refine Ord.wpT_take (v := ?_) ?_ ?_ ?_; rotate_left; (focus (go_simp; done)); (focus (intro w' hSw; (try dsimp only at hSw); go_simp; (try with_reducible rfl); done)); simp only [Act.put, List.setIfInBounds_toArray, List.set_cons_zero, List.set_cons_succ])))
      refine Ord.wpT_app_row elI64 ?_ (.tmp 36) (.tmp 38) rfl w2.heap.size v3 _ n 1 (is hops) [.int .i64 by_] rfl rfl (by intro u hu; simp at hu; subst hu; rfl) (own_alloc Ho3.out (.cells #[.int .i64 by_] 3)) (Rd.lit w3 1 1 [.int .i64 by_] 3 rfl (by simp [maxLen])) (hB4.size) (by omega) (fun v5 w5 ho5 hg5 hat5 => ?_)
      · go_simp
      have hB5 : Below w2.heap.size w2 w5 := hB4.grown hg5 (by have := hB4.size; exact this) (fun k hk => by have := own_base (own_alloc Ho3.out (.cells #[.int .i64 by_] 3)) k hk; have := Nat.le_refl w2.heap.size; omega)
      refine ⟨Hcel.out _ hB5, ?_⟩
      have hr5 : Rd w5 1 v5 (n + 1) (is (hops ++ [by_])) := by rw [is_append]; exact Rd.of_own ho5
      clear ho5 hg5 hat5
      ((try simp only [Act.put, List.setIfInBounds_toArray, List.set_cons_zero, List.set_cons_succ]); repeat (first | (refine Ord.wpT_skip ?_ ?_; (focus (go_simp; (try (intro h; cases h)); done)); simp only [Act.put, List.setIfInBounds_toArray, List.set_cons_zero, List.set_cons_succ]) | (refine Ord.wpT_take (v := ?_) ?_ ?_ ?_; rotate_left; (focus (go_simp; done)); (focus (intro w' hSw; (try dsimp only at hSw); go_simp; (try with_reducible rfl); done)); simp only [Act.put, List.setIfInBounds_toArray, List.set_cons_zero, List.set_cons_succ])))
      (refine Ord.wpT_call ?_ (fun K hK => ?_); (focus (go_simp; done)); go_simp)
      go_at_call 44
      refine (Hnw.out _ _ hr5).mono ?_
      rintro e w6 ⟨v6, rfl, ho6, hb6⟩
      obtain ⟨A6, c6, rfl, -, -, -⟩ := (Rd.of_own ho6).slice_
      have hl6 : w.heap.size + 1 < w5.heap.size := by have := hB5.size; omega
      have Ho6 := Lib.hid ho6
      have hB6 := below_go hb6 hB5
      have Z6 := Lib.hid (blk_below Z1.out hB6)
      have E6 := Lib.hid (blk_below E1.out hB6)
      clear hb6 hr5 ho6
      (refine hK _ _ (by exact Hcel.out _ hB6) ?_; clear hK K; (try simp only [Act.put, List.setIfInBounds_toArray, List.set_cons_zero, List.set_cons_succ]); repeat (first | (refine Ord.wpT_skip ?_ ?_; (focus (go_simp; (try (intro h; cases h)); done)); simp only [Act.put, List.setIfInBounds_toArray, List.set_cons_zero, List.set_cons_succ]) | (refine Ord.wpT_take (v := ?_) ?_ ?_ ?_; rotate_left; (focus (go_simp; done)); (focus (intro w' hSw; (try dsimp only at hSw); go_simp; (try with_reducible rfl); done)); simp only [Act.put, List.setIfInBounds_toArray, List.set_cons_zero, List.set_cons_succ])))
      obtain ⟨z0, z1, z2⟩ := env_cells Z6.out
      have q0 := blk_frozen Z6.out 0
      have q1 := blk_frozen Z6.out 1
      have q2 := blk_frozen Z6.out 2
      have hne : w.heap.size ≠ w.heap.size + 1 := by omega
      (refine Ord.wpT_call ?_ (fun K hK => ?_); (focus (go_simp; done)); go_simp)
      (refine hK _ _ (by exact env_cells (blk_far (blk_far (blk_far E6.out hne _) hne _) hne _)) ?_; clear hK K; (try simp only [Act.put, List.setIfInBounds_toArray, List.set_cons_zero, List.set_cons_succ]); repeat (first | (refine Ord.wpT_skip ?_ ?_; (focus (go_simp; (try (intro h; cases h)); done)); simp only [Act.put, List.setIfInBounds_toArray, List.set_cons_zero, List.set_cons_succ]) | (refine Ord.wpT_take (v := ?_) ?_ ?_ ?_; rotate_left; (focus (go_simp; done)); (focus (intro w' hSw; (try dsimp only at hSw); go_simp; (try with_reducible rfl); done)); simp only [Act.put, List.setIfInBounds_toArray, List.set_cons_zero, List.set_cons_succ])))
      refine Ord.wpT_nil ?_
      go_wp2_with fail
      refine bodyPost_ret (v := .tuple #[.agg [Value.slice A6 (n + 1) c6, .int .i64 limit, .string sn].toArray, .int .i64 0]) (Use.results_cell_tmp rfl _ _ (w.heap.size + 1) [.slice A6 (n + 1) c6, .int .i64 limit, .string sn] _ _ rfl rfl (range_all (set3 Z6.out)) Try.underlying56 rfl (by kernel_rfl)) rfl ?_
      rw [HP.out]
      have hBf : Below w.heap.size w w6 := below_go hB6 hB1
      have hln : (hops ++ [by_]).length = n + 1 := by rw [List.length_append, ← Hn.out]; rfl
      refine ⟨.slice A6 (n + 1) c6, by rw [Hsn.out], ?_, below_set (below_set (below_set hBf (by omega) _ _) (by omega) _ _) (by omega) _ _⟩
      show World.ownsRow _ _ _ 1 _ (hops ++ [by_]).length (is (hops ++ [by_]))
      rw [hln]
      exact own_lower (own_set (own_set (own_set Ho6.out hl6 _ _) hl6 _ _) hl6 _ _) (by omega)
    · (refine Ord.wpT_call ?_ (fun K hK => ?_); (focus (go_simp; done)); go_simp)
      have hB4 : Below w2.heap.size w2 (w2.alloc (.cells #[.int .i64 by_] 3)).drew := (below_one _ _).drew
      (refine hK _ _ (by exact Hcel.out _ hB4) ?_; clear hK K; (try simp only [Act.put, List.setIfInBounds_toArray, List.set_cons_zero, List.set_cons_succ]); repeat (first | (refine Ord.wpT_skip ?_ ?_; (focus (go_simp; (try (intro h; cases h)); done)); simp only [Act.put, List.setIfInBounds_toArray, List.set_cons_zero, List.set_cons_succ]) | (refine Ord.wpT_take (v := ?_) ?_ ?_ ?_; rotate_left; (focus (go_simp; done)); (focus (intro w' hSw; (try dsimp only at hSw); go_simp; (try with_reducible rfl); done)); simp only [Act.put, List.setIfInBounds_toArray, List.set_cons_zero, List.set_cons_succ])))
      (refine Ord.wpT_call ?_ (fun K hK => ?_); (focus (go_simp; done)); go_simp)
      go_at_call 111
      refine (Hcl.out _ hB4).mono ?_
      rintro e w3 ⟨v3, rfl, ho3, hb3⟩
      have hB3 := below_go hb3 hB4
      have hlt3 := Lib.hid ((Rd.lit w2 1 1 [.int .i64 by_] 3 rfl (by simp [maxLen])).below ((Below.refl _ _).drew.trans hb3))
      have Ho3 := Lib.hid ho3
      clear hb3 ho3
      (refine hK _ _ (by exact Hcel.out _ hB3) ?_; clear hK K; (try simp only [Act.put, List.setIfInBounds_toArray, List.set_cons_zero, List.set_cons_succ]); repeat (first | (refine Ord.wpT_skip ?_ ?_; (focus (go_simp; (try (intro h; cases h)); done)); simp only [Act.put, List.setIfInBounds_toArray, List.set_cons_zero, List.set_cons_succ]) | (refine Ord.wpT_take (v := ?_) ?_ ?_ ?_; rotate_left; (focus (go_simp; done)); (focus (intro w' hSw; (try dsimp only at hSw); go_simp; (try with_reducible rfl); done)); simp only [Act.put, List.setIfInBounds_toArray, List.set_cons_zero, List.set_cons_succ])))
      refine Ord.wpT_app_row elI64 ?_ (.tmp 36) (.tmp 38) rfl w2.heap.size v3 _ n 1 (is hops) [.int .i64 by_] rfl rfl (by intro u hu; simp at hu; subst hu; rfl) (own_lower Ho3.out hB4.size) (hlt3.out) (hB3.size) (by omega) (fun v5 w5 ho5 hg5 hat5 => ?_)
      · go_simp
      have hB5 : Below w2.heap.size w2 w5 := hB3.grown hg5 (by have := hB3.size; exact this) (fun k hk => by have := own_base (own_lower Ho3.out hB4.size) k hk; have := Nat.le_refl w2.heap.size; omega)
      refine ⟨Hcel.out _ hB5, ?_⟩
      have hr5 : Rd w5 1 v5 (n + 1) (is (hops ++ [by_])) := by rw [is_append]; exact Rd.of_own ho5
      clear ho5 hg5 hat5
      ((try simp only [Act.put, List.setIfInBounds_toArray, List.set_cons_zero, List.set_cons_succ]); repeat (first | (refine Ord.wpT_skip ?_ ?_; (focus (go_simp; (try (intro h; cases h)); done)); simp only [Act.put, List.setIfInBounds_toArray, List.set_cons_zero, List.set_cons_succ]) | (refine Ord.wpT_take (v := ?_) ?_ ?_ ?_; rotate_left; (focus (go_simp; done)); (focus (intro w' hSw; (try dsimp only at hSw); go_simp; (try with_reducible rfl); done)); simp only [Act.put, List.setIfInBounds_toArray, List.set_cons_zero, List.set_cons_succ])))
      (refine Ord.wpT_call ?_ (fun K hK => ?_); (focus (go_simp; done)); go_simp)
      go_at_call 44
      refine (Hnw.out _ _ hr5).mono ?_
      rintro e w6 ⟨v6, rfl, ho6, hb6⟩
      obtain ⟨A6, c6, rfl, -, -, -⟩ := (Rd.of_own ho6).slice_
      have hl6 : w.heap.size + 1 < w5.heap.size := by have := hB5.size; omega
      have Ho6 := Lib.hid ho6
      have hB6 := below_go hb6 hB5
      have Z6 := Lib.hid (blk_below Z1.out hB6)
      have E6 := Lib.hid (blk_below E1.out hB6)
      clear hb6 hr5 ho6
      (refine hK _ _ (by exact Hcel.out _ hB6) ?_; clear hK K; (try simp only [Act.put, List.setIfInBounds_toArray, List.set_cons_zero, List.set_cons_succ]); repeat (first | (refine Ord.wpT_skip ?_ ?_; (focus (go_simp; (try (intro h; cases h)); done)); simp only [Act.put, List.setIfInBounds_toArray, List.set_cons_zero, List.set_cons_succ]) | (refine Ord.wpT_take (v := ?_) ?_ ?_ ?_; rotate_left; (focus (go_simp; done)); (focus (intro w' hSw; (try dsimp only at hSw); go_simp; (try with_reducible rfl); done)); simp only [Act.put, List.setIfInBounds_toArray, List.set_cons_zero, List.set_cons_succ])))
      obtain ⟨z0, z1, z2⟩ := env_cells Z6.out
      have q0 := blk_frozen Z6.out 0
      have q1 := blk_frozen Z6.out 1
      have q2 := blk_frozen Z6.out 2
      have hne : w.heap.size ≠ w.heap.size + 1 := by omega
      (refine Ord.wpT_call ?_ (fun K hK => ?_); (focus (go_simp; done)); go_simp)
      (refine hK _ _ (by exact env_cells (blk_far (blk_far (blk_far E6.out hne _) hne _) hne _)) ?_; clear hK K; (try simp only [Act.put, List.setIfInBounds_toArray, List.set_cons_zero, List.set_cons_succ]); repeat (first | (refine Ord.wpT_skip ?_ ?_; (focus (go_simp; (try (intro h; cases h)); done)); simp only [Act.put, List.setIfInBounds_toArray, List.set_cons_zero, List.set_cons_succ]) | (refine Ord.wpT_take (v := ?_) ?_ ?_ ?_; rotate_left; (focus (go_simp; done)); (focus (intro w' hSw; (try dsimp only at hSw); go_simp; (try with_reducible rfl); done)); simp only [Act.put, List.setIfInBounds_toArray, List.set_cons_zero, List.set_cons_succ])))
      refine Ord.wpT_nil ?_
      go_wp2_with fail
      refine bodyPost_ret (v := .tuple #[.agg [Value.slice A6 (n + 1) c6, .int .i64 limit, .string sn].toArray, .int .i64 0]) (Use.results_cell_tmp rfl _ _ (w.heap.size + 1) [.slice A6 (n + 1) c6, .int .i64 limit, .string sn] _ _ rfl rfl (range_all (set3 Z6.out)) Try.underlying56 rfl (by kernel_rfl)) rfl ?_
      rw [HP.out]
      have hBf : Below w.heap.size w w6 := below_go hB6 hB1
      have hln : (hops ++ [by_]).length = n + 1 := by rw [List.length_append, ← Hn.out]; rfl
      refine ⟨.slice A6 (n + 1) c6, by rw [Hsn.out], ?_, below_set (below_set (below_set hBf (by omega) _ _) (by omega) _ _) (by omega) _ _⟩
      show World.ownsRow _ _ _ 1 _ (hops ++ [by_]).length (is (hops ++ [by_]))
      rw [hln]
      exact own_lower (own_set (own_set (own_set Ho6.out hl6 _ _) hl6 _ _) hl6 _ _) (by omega)
theorem pass_any (e : E) (hv : Value) (by_ : Int) (w : World) (he : EIn w e hv) (hl : (e.hops.length + 1) * 8 ≤ 140737488355328) :
    Calls Try.prog 46 #[.agg #[hv, .int .i64 e.limit, .string (str e.inner)], .int .i64 by_] w fun r w' => ∃ hv', r = .returned (.tuple #[.agg #[hv', .int .i64 (e.pass by_).1.limit, .string (str (e.pass by_).1.inner)], .int .i64 (e.pass by_).2]) ∧ Rd w' 1 hv' (e.pass by_).1.hops.length (is (e.pass by_).1.hops) ∧ Below w.heap.size w w' :=
  (pass_own e hv by_ w he hl).mono fun r w' ⟨hv', h1, h2, h3⟩ => ⟨hv', h1, Rd.of_own h2, h3⟩
end Go.Proofs.Ytcjabfdjngekfaa.Rel
