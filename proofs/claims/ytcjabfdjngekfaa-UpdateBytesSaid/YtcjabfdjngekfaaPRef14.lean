/- The reference of updates, walked: Own, Right, Same. -/
import Derived.Test.YtcjabfdjngekfaaUpdW5
import Derived.Test.YtcjabfdjngekfaaPRef03W
import Derived.Test.YtcjabfdjngekfaaOrdS
set_option linter.unusedVariables false
set_option linter.unusedSimpArgs false
namespace Go.Proofs.Ytcjabfdjngekfaa.Upd
open Go.RowKit Go.Proofs.Ytcjabfdjngekfaa.Wd Go.Proofs.Ytcjabfdjngekfaa.Use Go.Proofs.Ytcjabfdjngekfaa.Lay Go.Proofs.Ytcjabfdjngekfaa.Ids

theorem infoRU : (Try.prog.info? 105).map (·.size) = some 6 := by kernel_rfl
set_option maxRecDepth 100000 in
set_option maxHeartbeats 8000000 in
theorem Own14_any (u : U) (pv : Value) (w : World) (hu : UIn w u pv) (hn : u.ps.length ≤ 100000) : Calls Try.prog 67 #[.agg #[.int .i64 u.au, .int .u64 (u.ct : Int), pv, .int .i64 u.kd, .string (str u.ky), .string (str u.vl)]] w fun r w' => ∃ v', r = .returned (.agg #[.int .i64 u.au, .int .u64 (u.ct : Int), v', .int .i64 u.kd, .string (str u.ky), .string (str u.vl)]) ∧ UIn w' u v' ∧ Below w.heap.size w w' := by
  have hown := fun W (h : Below w.heap.size w W) => Ids.Own_any u.ps hu.w32 hn pv W (hu.ps.below h)
  obtain ⟨A, c, rfl, -, -, -⟩ := hu.ps.slice_
  obtain ⟨-, h32, hau, hkd, hct, hky, hvl⟩ := hu
  have Hin := Lib.hid (fun (W : World) (v : Value) (h : Rd W 32 v u.ps.length (ix u.ps)) => (⟨h, h32, hau, hkd, hct, hky, hvl⟩ : UIn W u v))
  clear h32 hau hkd hct hky hvl
  generalize ix u.ps = IX at hown Hin
  obtain ⟨UI, hUI⟩ : ∃ UI : World → Value → Prop, UI = fun W v => UIn W u v := ⟨_, rfl⟩
  have Hin2 := Lib.hid (show ∀ (W : World) (v : Value), Rd W 32 v u.ps.length IX → UI W v by rw [hUI]; exact Hin.out)
  have hgoal : ∀ W v, UI W v → UIn W u v := by rw [hUI]; exact fun W v h => h
  have Hgoal := Lib.hid hgoal
  clear Hin hUI hgoal
  suffices h : Calls Try.prog 67 #[.agg #[.int .i64 u.au, .int .u64 (u.ct : Int), .slice A u.ps.length c, .int .i64 u.kd, .string (str u.ky), .string (str u.vl)]] w fun r w' => ∃ v', r = .returned (.agg #[.int .i64 u.au, .int .u64 (u.ct : Int), v', .int .i64 u.kd, .string (str u.ky), .string (str u.vl)]) ∧ UI w' v' ∧ Below w.heap.size w w' from
    h.mono fun e w' ⟨v', h1, h2, h3⟩ => ⟨v', h1, Hgoal.out _ _ h2, h3⟩
  clear Hgoal
  obtain ⟨au, ct, ps, kd, ky, vl⟩ := u
  simp only at hown Hin2 hn ⊢
  generalize ps.length = n at *
  have Hown := Lib.hid hown
  obtain ⟨W0, hW0⟩ : ∃ W, W = (w.alloc (.cells #[.int .i64 au, .int .u64 (ct : Int), .slice A n c, .int .i64 kd, .string (str ky), .string (str vl)] 97)).alloc (.cells zcs.toArray 105) := ⟨_, rfl⟩
  have hbw : Below w.heap.size w W0 := by rw [hW0]; exact below_two _ _ _
  have Hcel := Lib.hid (show ∀ W, Below W0.heap.size W0 W → W.cell? ⟨w.heap.size, 0, none⟩ = some (.int .i64 au) ∧ W.cell? ⟨w.heap.size, 1, none⟩ = some (.int .u64 (ct : Int)) ∧ W.cell? ⟨w.heap.size, 2, none⟩ = some (.slice A n c) ∧ W.cell? ⟨w.heap.size, 3, none⟩ = some (.int .i64 kd) ∧ W.cell? ⟨w.heap.size, 4, none⟩ = some (.string (str ky)) ∧ W.cell? ⟨w.heap.size, 5, none⟩ = some (.string (str vl)) from by
    intro W h; rw [hW0] at h; exact ucells (blk_below (blk_alloc (heap_alloc_new w _) _) h))
  have Hz := Lib.hid (show ∀ W, Below W0.heap.size W0 W → W.heap[w.heap.size + 1]? = some (.cells zcs.toArray 105 (0, 0)) from by
    intro W h; rw [hW0] at h; exact blk_below (alloc_at w _ _) h)
  have HW0 := Lib.hid hW0
  clear hown hW0
  go_enter Try.func67, Try.ntmps67
  go_upto_region 1 with fail
  rw [show (w.alloc (.cells #[.int .i64 au, .int .u64 (ct : Int), .slice A n c, .int .i64 kd, .string (str ky), .string (str vl)] 97)).alloc (.cells #[.int .i64 0, .int .u64 0, .slice none 0 0, .int .i64 0, .string ⟨#[]⟩, .string ⟨#[]⟩] 105) = W0 from HW0.out.symm]
  (refine Ord.wp_region_ord [(false, 0), (false, 1), (false, 2), (false, 3), (false, 4), (false, 5), (false, 7), (false, 8), (false, 9), (false, 10), (false, 11), (false, 12), (true, 6), (false, 13), (true, 14)] (fun W => W.cell? ⟨w.heap.size, 0, none⟩ = some (.int .i64 au) ∧ W.cell? ⟨w.heap.size, 1, none⟩ = some (.int .u64 (ct : Int)) ∧ W.cell? ⟨w.heap.size, 2, none⟩ = some (.slice A n c) ∧ W.cell? ⟨w.heap.size, 3, none⟩ = some (.int .i64 kd) ∧ W.cell? ⟨w.heap.size, 4, none⟩ = some (.string (str ky)) ∧ W.cell? ⟨w.heap.size, 5, none⟩ = some (.string (str vl))) (by kernel_rfl) (by kernel_rfl) (by kernel_rfl) (by kernel_rfl) (by exact Hcel.out _ (Below.refl _ _).drew) ?_; simp only [Ord.ordOps, List.filterMap_cons, List.filterMap_nil, List.getElem?_toArray, List.getElem?_cons_succ, List.getElem?_cons_zero, Option.map_some]; repeat (first | (refine Ord.wpOrd_skip ?_ ?_; (focus (go_simp; (try (intro h; cases h)); done)); simp only [Act.put, List.setIfInBounds_toArray, List.set_cons_zero, List.set_cons_succ]) | (refine Ord.wpOrd_take (v := ?_) ?_ ?_ ?_; rotate_left; (focus (go_simp; done)); (focus (intro w' hSw; (try dsimp only at hSw); go_simp; (try with_reducible rfl); done)); simp only [Act.put, List.setIfInBounds_toArray, List.set_cons_zero, List.set_cons_succ])))
  (refine Ord.wpOrd_call ?_ (fun K hK => ?_); (focus (go_simp; done)); go_simp)
  go_at_call 126
  refine (Hown.out W0.drew hbw.drew).mono ?_
  rintro r w2 ⟨v2, rfl, ho2, hb2⟩
  have hb2' := below_go hb2 (Below.refl W0.heap.size W0).drew
  have hr2 := Rd.of_own ho2
  have Hnb := Lib.hid (show ∀ k, k = w.heap.size + 1 → v2.ownBlock ≠ some k from fun k hk e => by
    have h1 := own_base ho2 k e
    have h2 : w.heap.size + 1 < W0.heap.size := blk_lt (Hz.out _ (Below.refl _ _))
    have h3 : W0.drew.heap.size = W0.heap.size := rfl
    omega)
  obtain ⟨A2, c2, rfl, -, -, -⟩ := hr2.slice_
  have Hr2 := Lib.hid hr2
  clear hr2 ho2
  (refine hK _ _ (by exact Hcel.out _ hb2') ?_; clear hK K; (try simp only [Act.put, List.setIfInBounds_toArray, List.set_cons_zero, List.set_cons_succ]); repeat (first | (refine Ord.wpOrd_skip ?_ ?_; (focus (go_simp; (try (intro h; cases h)); done)); simp only [Act.put, List.setIfInBounds_toArray, List.set_cons_zero, List.set_cons_succ]) | (refine Ord.wpOrd_take (v := ?_) ?_ ?_ ?_; rotate_left; (focus (go_simp; done)); (focus (intro w' hSw; (try dsimp only at hSw); go_simp; (try with_reducible rfl); done)); simp only [Act.put, List.setIfInBounds_toArray, List.set_cons_zero, List.set_cons_succ])))
  obtain ⟨cs, hcs⟩ : ∃ cs : List Value, cs = [.int .i64 au, .int .u64 (ct : Int), .slice A2 n c2, .int .i64 kd, .string (str ky), .string (str vl)] := ⟨_, rfl⟩
  have Hcs := Lib.hid hcs
  have Hone := Lib.hid (show ∀ v ∈ cs, v.oneCell' = true by rw [hcs]; intro v hv; simp at hv; rcases hv with rfl | rfl | rfl | rfl | rfl | rfl <;> rfl)
  have Hlen := Lib.hid (show cs.length = zcs.length by rw [hcs]; rfl)
  have Hinf := Lib.hid (show (Try.prog.info? 105).map (·.size) = some cs.length by rw [hcs]; exact infoRU)
  clear hcs
  refine Ord.wpOrd_store_all ?_ 105 _ _ rfl (w.heap.size + 1) cs zcs rfl (by rw [Hcs.out]; rfl) Hone.out Hlen.out Hinf.out _ (Hz.out _ hb2') (fun w3 hz3 hg3 => ?_)
  focus (go_simp; done)
  have hb3 : Below w.heap.size w w3 := (below_go hb2' hbw).grown hg3 (below_go hb2' hbw).size (fun k hk => by injection hk with hk; omega)
  refine ⟨?_, ?_⟩
  · obtain ⟨p0, p1, p2, p3, p4, p5⟩ := Hcel.out _ hb2'
    have hk : w2.heap[w.heap.size]? = w3.heap[w.heap.size]? := by
      refine (hg3.block w.heap.size ?_ (by intro e; injection e with e; omega)).symm
      have h1 := hb2'.size
      have h2 := blk_lt (Hz.out _ hb2')
      omega
    have hcell : ∀ i, w3.cell? ⟨w.heap.size, i, none⟩ = w2.cell? ⟨w.heap.size, i, none⟩ := fun i => by simp only [World.cell?, hk]
    rw [hcell, hcell, hcell, hcell, hcell, hcell]
    exact ⟨p0, p1, p2, p3, p4, p5⟩
  have Hr3 := Lib.hid (Rd.grown Hr2.out hg3 (fun k hk e => by injection hk with hk; exact Hnb.out k hk.symm e))
  ((try simp only [Act.put, List.setIfInBounds_toArray, List.set_cons_zero, List.set_cons_succ]); repeat (first | (refine Ord.wpOrd_skip ?_ ?_; (focus (go_simp; (try (intro h; cases h)); done)); simp only [Act.put, List.setIfInBounds_toArray, List.set_cons_zero, List.set_cons_succ]) | (refine Ord.wpOrd_take (v := ?_) ?_ ?_ ?_; rotate_left; (focus (go_simp; done)); (focus (intro w' hSw; (try dsimp only at hSw); go_simp; (try with_reducible rfl); done)); simp only [Act.put, List.setIfInBounds_toArray, List.set_cons_zero, List.set_cons_succ])))
  refine Ord.wpOrd_nil ?_
  go_wp2_with fail
  refine bodyPost_ret (v := .agg cs.toArray) (Sha.results_cell_mid rfl _ _ (w.heap.size + 1) cs _ rfl (range_all hz3.out) Try.underlying105 rfl Hinf.out) rfl ?_
  rw [Hcs.out]
  exact ⟨_, rfl, Hin2.out _ _ Hr3.out, hb3⟩
end Go.Proofs.Ytcjabfdjngekfaa.Upd
set_option linter.unusedVariables false
set_option linter.unusedSimpArgs false
namespace Go.Proofs.Ytcjabfdjngekfaa.Upd
open Go.RowKit Go.Proofs.Ytcjabfdjngekfaa.Wd Go.Proofs.Ytcjabfdjngekfaa.Use Go.Proofs.Ytcjabfdjngekfaa.Lay Go.Proofs.Ytcjabfdjngekfaa.Ids

set_option maxRecDepth 100000 in
set_option maxHeartbeats 8000000 in
theorem rSame14_any (u o : U) (pu po : Value) (w : World) (hu : UIn w u pu) (ho : UIn w o po) : Calls Try.prog 73 #[.agg #[.int .i64 u.au, .int .u64 u.ct, pu, .int .i64 u.kd, .string (str u.ky), .string (str u.vl)], .agg #[.int .i64 o.au, .int .u64 o.ct, po, .int .i64 o.kd, .string (str o.ky), .string (str o.vl)]] w fun r w' => r = .returned (.bool (u.same o)) ∧ Below w.heap.size w w' := by
  obtain ⟨hp1, h1, -, -, -, -, -⟩ := hu
  obtain ⟨hp2, h2, -, -, -, -, -⟩ := ho
  obtain ⟨au, ct, ps, kd, ky, vl⟩ := u
  obtain ⟨au', ct', ps', kd', ky', vl'⟩ := o
  simp only at hp1 hp2 h1 h2 ⊢
  have hr : U.same ⟨au, ct, ps, kd, ky, vl⟩ ⟨au', ct', ps', kd', ky', vl'⟩ = (au == au' && ct == ct' && kd == kd' && ky == ky' && vl == vl' && ps == ps') := rfl
  generalize U.same ⟨au, ct, ps, kd, ky, vl⟩ ⟨au', ct', ps', kd', ky', vl'⟩ = r at hr ⊢
  have hq := fun (W : World) (h : Below w.heap.size w W) => Ids.rSame_any ps ps' h1 h2 pu po W (hp1.below h) (hp2.below h)
  generalize (ps == ps') = q at hr hq
  obtain ⟨A, c, rfl, -, -, -⟩ := hp1.slice_
  obtain ⟨A', c', rfl, -, -, -⟩ := hp2.slice_
  generalize ps.length = n at *
  generalize ps'.length = n' at *
  have Hr := Lib.hid hr
  have Hq := Lib.hid hq
  clear hr hq hp1 hp2 h1 h2
  obtain ⟨W0, hW0⟩ : ∃ W, W = (w.alloc (.cells #[.int .i64 au, .int .u64 (ct : Int), .slice A n c, .int .i64 kd, .string (str ky), .string (str vl)] 105)).alloc (.cells #[.int .i64 au', .int .u64 (ct' : Int), .slice A' n' c', .int .i64 kd', .string (str ky'), .string (str vl')] 105) := ⟨_, rfl⟩
  have Hcel := Lib.hid (show ∀ W, Below W0.heap.size W0 W → (W.cell? ⟨w.heap.size, 0, none⟩ = some (.int .i64 au) ∧ W.cell? ⟨w.heap.size, 1, none⟩ = some (.int .u64 (ct : Int)) ∧ W.cell? ⟨w.heap.size, 2, none⟩ = some (.slice A n c) ∧ W.cell? ⟨w.heap.size, 3, none⟩ = some (.int .i64 kd) ∧ W.cell? ⟨w.heap.size, 4, none⟩ = some (.string (str ky)) ∧ W.cell? ⟨w.heap.size, 5, none⟩ = some (.string (str vl))) ∧ (W.cell? ⟨w.heap.size + 1, 0, none⟩ = some (.int .i64 au') ∧ W.cell? ⟨w.heap.size + 1, 1, none⟩ = some (.int .u64 (ct' : Int)) ∧ W.cell? ⟨w.heap.size + 1, 2, none⟩ = some (.slice A' n' c') ∧ W.cell? ⟨w.heap.size + 1, 3, none⟩ = some (.int .i64 kd') ∧ W.cell? ⟨w.heap.size + 1, 4, none⟩ = some (.string (str ky')) ∧ W.cell? ⟨w.heap.size + 1, 5, none⟩ = some (.string (str vl'))) from by
    intro W h; rw [hW0] at h; exact ⟨ucells (blk_below (blk_alloc (heap_alloc_new w _) _) h), ucells (blk_below (alloc_at w _ _) h)⟩)
  have hbw : Below w.heap.size w W0 := by rw [hW0]; exact below_two _ _ _
  have HW0 := Lib.hid hW0
  clear hW0
  by_cases h1 : au = au'
  rotate_left
  · have d1 : (au == au') = false := by rw [beq_eq_false_iff_ne]; exact h1
    have Hf := Lib.hid (show r = false by rw [Hr.out, show (au == au') = false by rw [beq_eq_false_iff_ne]; exact h1]; simp)
    go_enter Try.func73, Try.ntmps73
    go_wp2_with (go_at_call 127; refine (Hq.out _ (below_two _ _ _)).mono ?_; rintro e w5 ⟨rfl, hb5⟩; rw [← HW0.out] at hb5; obtain ⟨⟨x0, x1, x2, x3, x4, x5⟩, y0, y1, y2, y3, y4, y5⟩ := Hcel.out _ hb5)
    go_ret
    exact ⟨ret_b Hf.out.symm, below_two _ _ _⟩
  subst h1
  by_cases h2 : ct = ct'
  rotate_left
  · have d2 : ((ct : Int) == (ct' : Int)) = false := by rw [beq_eq_false_iff_ne]; omega
    have Hf := Lib.hid (show r = false by rw [Hr.out, show (ct == ct') = false by rw [beq_eq_false_iff_ne]; exact h2]; simp)
    go_enter Try.func73, Try.ntmps73
    go_wp2_with (go_at_call 127; refine (Hq.out _ (below_two _ _ _)).mono ?_; rintro e w5 ⟨rfl, hb5⟩; rw [← HW0.out] at hb5; obtain ⟨⟨x0, x1, x2, x3, x4, x5⟩, y0, y1, y2, y3, y4, y5⟩ := Hcel.out _ hb5)
    go_ret
    exact ⟨ret_b Hf.out.symm, below_two _ _ _⟩
  subst h2
  cases q with
  | false =>
    have Hf := Lib.hid (show r = false by rw [Hr.out]; simp)
    go_enter Try.func73, Try.ntmps73
    go_wp2_with (go_at_call 127; refine (Hq.out _ (below_two _ _ _)).mono ?_; rintro e w5 ⟨rfl, hb5⟩; rw [← HW0.out] at hb5; obtain ⟨⟨x0, x1, x2, x3, x4, x5⟩, y0, y1, y2, y3, y4, y5⟩ := Hcel.out _ hb5)
    go_ret
    exact ⟨ret_b Hf.out.symm, below_go hb5 hbw⟩
  | true =>
    by_cases h3 : kd = kd'
    rotate_left
    · have d3 : (kd == kd') = false := by rw [beq_eq_false_iff_ne]; exact h3
      have Hf := Lib.hid (show r = false by rw [Hr.out, show (kd == kd') = false by rw [beq_eq_false_iff_ne]; exact h3]; simp)
      go_enter Try.func73, Try.ntmps73
      go_wp2_with (go_at_call 127; refine (Hq.out _ (below_two _ _ _)).mono ?_; rintro e w5 ⟨rfl, hb5⟩; rw [← HW0.out] at hb5; obtain ⟨⟨x0, x1, x2, x3, x4, x5⟩, y0, y1, y2, y3, y4, y5⟩ := Hcel.out _ hb5)
      go_ret
      exact ⟨ret_b Hf.out.symm, below_go hb5 hbw⟩
    subst h3
    by_cases h4 : ky = ky'
    rotate_left
    · have d4 : (ky == ky') = false := by rw [beq_eq_false_iff_ne]; exact h4
      have Hf := Lib.hid (show r = false by rw [Hr.out, show (ky == ky') = false by rw [beq_eq_false_iff_ne]; exact h4]; simp)
      go_enter Try.func73, Try.ntmps73
      go_wp2_with (go_at_call 127; refine (Hq.out _ (below_two _ _ _)).mono ?_; rintro e w5 ⟨rfl, hb5⟩; rw [← HW0.out] at hb5; obtain ⟨⟨x0, x1, x2, x3, x4, x5⟩, y0, y1, y2, y3, y4, y5⟩ := Hcel.out _ hb5)
      go_ret
      exact ⟨ret_b Hf.out.symm, below_go hb5 hbw⟩
    subst h4
    by_cases h5 : vl = vl'
    rotate_left
    · have d5 : (vl == vl') = false := by rw [beq_eq_false_iff_ne]; exact h5
      have Hf := Lib.hid (show r = false by rw [Hr.out, show (vl == vl') = false by rw [beq_eq_false_iff_ne]; exact h5]; simp)
      go_enter Try.func73, Try.ntmps73
      go_wp2_with (go_at_call 127; refine (Hq.out _ (below_two _ _ _)).mono ?_; rintro e w5 ⟨rfl, hb5⟩; rw [← HW0.out] at hb5; obtain ⟨⟨x0, x1, x2, x3, x4, x5⟩, y0, y1, y2, y3, y4, y5⟩ := Hcel.out _ hb5)
      go_ret
      exact ⟨ret_b Hf.out.symm, below_go hb5 hbw⟩
    subst h5
    have Hf := Lib.hid (show r = true by rw [Hr.out]; simp)
    go_enter Try.func73, Try.ntmps73
    go_wp2_with (go_at_call 127; refine (Hq.out _ (below_two _ _ _)).mono ?_; rintro e w5 ⟨rfl, hb5⟩; rw [← HW0.out] at hb5; obtain ⟨⟨x0, x1, x2, x3, x4, x5⟩, y0, y1, y2, y3, y4, y5⟩ := Hcel.out _ hb5)
    go_ret
    exact ⟨ret_b Hf.out.symm, below_go hb5 hbw⟩
set_option maxRecDepth 100000 in
set_option maxHeartbeats 8000000 in
theorem rPut14_any (u : U) (pv : Value) (w : World) (hu : UIn w u pv) (hr : u.right = true) : Calls Try.prog 69 #[.agg #[.int .i64 u.au, .int .u64 (u.ct : Int), pv, .int .i64 u.kd, .string (str u.ky), .string (str u.vl)]] w fun r w' => r = .returned (.string (str u.put)) ∧ Below w.heap.size w w' := by
  obtain ⟨⟨a1, a2⟩, -, p8, -, ⟨k1, k2⟩, hky, hvl, -⟩ := right_spec.1 hr
  have hl1 := Ids.putN_le u.au.toNat (by omega)
  have hl2 := Ids.putN_le u.ct hu.ct
  have hl3 := Ids.putN_le u.kd.toNat (by omega)
  have hl4 := putT_le u.ky hky
  have hl5 := putT_le u.vl hvl
  have hl6 := idsput_le hu.w32 p8
  have hw1 : IntKind.u64.wrap u.au = ((u.au.toNat : Nat) : Int) := by rw [IntKind.wrap_u64]; omega
  have hw2 : IntKind.u64.wrap u.kd = ((u.kd.toNat : Nat) : Int) := by rw [IntKind.wrap_u64]; omega
  have q1 := fun W => Ref01.PutNumber_any [] u.au.toNat W (by omega) (by simp)
  have q2 := fun W => Ref01.PutNumber_any (putN u.au.toNat) u.ct W hu.ct (by omega)
  have q3 := fun W => Ref01.PutNumber_any (putN u.au.toNat ++ putN u.ct) u.kd.toNat W (by omega) (by rw [List.length_append]; omega)
  have q4 := fun W => Ref01.PutText_any (putN u.au.toNat ++ putN u.ct ++ putN u.kd.toNat) u.ky W (by rw [List.length_append, List.length_append]; omega)
  have q5 := fun W => Ref01.PutText_any (putN u.au.toNat ++ putN u.ct ++ putN u.kd.toNat ++ putT u.ky) u.vl W (by rw [List.length_append, List.length_append, List.length_append]; omega)
  have q6 := fun W (h : Below w.heap.size w W) => Ids.rPut_any u.ps hu.w32 (by omega) pv W (hu.ps.below h)
  rw [List.nil_append] at q1
  have hfin : putN u.au.toNat ++ putN u.ct ++ putN u.kd.toNat ++ putT u.ky ++ putT u.vl ++ Ids.put u.ps = u.put := by simp [U.put]
  have hlen : ((putN u.au.toNat ++ putN u.ct ++ putN u.kd.toNat ++ putT u.ky ++ putT u.vl).length) + (Ids.put u.ps).length ≤ 1000 := by simp only [List.length_append]; omega
  obtain ⟨A, c, rfl, -, -, -⟩ := hu.ps.slice_
  rw [← hfin]
  clear hu hr hfin hl1 hl2 hl3 hl4 hl5 hl6 hky hvl p8
  obtain ⟨au, ct, ps, kd, ky, vl⟩ := u
  simp only at a1 a2 k1 k2 hw1 hw2 q1 q2 q3 q4 q5 q6 hlen ⊢
  generalize ps.length = n at *
  generalize au.toNat = aun at *
  generalize kd.toNat = kdn at *
  generalize Ids.put ps = L6 at *
  obtain ⟨L1, e1⟩ : ∃ L, L = putN aun := ⟨_, rfl⟩
  rw [← e1] at q1 q2 q3 q4 q5 hlen ⊢
  obtain ⟨L2, e2⟩ : ∃ L, L = L1 ++ putN ct := ⟨_, rfl⟩
  rw [← e2] at q2 q3 q4 q5 hlen ⊢
  obtain ⟨L3, e3⟩ : ∃ L, L = L2 ++ putN kdn := ⟨_, rfl⟩
  rw [← e3] at q3 q4 q5 hlen ⊢
  obtain ⟨L4, e4⟩ : ∃ L, L = L3 ++ putT ky := ⟨_, rfl⟩
  rw [← e4] at q4 q5 hlen ⊢
  obtain ⟨L5, e5⟩ : ∃ L, L = L4 ++ putT vl := ⟨_, rfl⟩
  rw [← e5] at q5 hlen ⊢
  have Q1 := Lib.hid q1
  have Q2 := Lib.hid q2
  have Q3 := Lib.hid q3
  have Q4 := Lib.hid q4
  have Q5 := Lib.hid q5
  have Q6 := Lib.hid q6
  clear q1 q2 q3 q4 q5 q6 e1 e2 e3 e4 e5
  obtain ⟨wb, hwb⟩ : ∃ wb, wb = w.alloc (.cells #[.int .i64 au, .int .u64 (ct : Int), .slice A n c, .int .i64 kd, .string (str ky), .string (str vl)] 105) := ⟨_, rfl⟩
  have Hcel := Lib.hid (show ∀ W, Below wb.heap.size wb W → W.cell? ⟨w.heap.size, 0, none⟩ = some (.int .i64 au) ∧ W.cell? ⟨w.heap.size, 1, none⟩ = some (.int .u64 (ct : Int)) ∧ W.cell? ⟨w.heap.size, 2, none⟩ = some (.slice A n c) ∧ W.cell? ⟨w.heap.size, 3, none⟩ = some (.int .i64 kd) ∧ W.cell? ⟨w.heap.size, 4, none⟩ = some (.string (str ky)) ∧ W.cell? ⟨w.heap.size, 5, none⟩ = some (.string (str vl)) from by
    intro W h; rw [hwb] at h; exact ucells (blk_below (heap_alloc_new w _) h))
  have hbw : Below w.heap.size w wb := by rw [hwb]; exact below_one _ _
  have Hwb := Lib.hid hwb
  clear hwb
  go_enter Try.func69, Try.ntmps69
  go_upto_region 1 with fail
  rw [show w.alloc (.cells #[.int .i64 au, .int .u64 (ct : Int), .slice A n c, .int .i64 kd, .string (str ky), .string (str vl)] 105) = wb from Hwb.out.symm]
  obtain ⟨x0, x1, x2, x3, x4, x5⟩ := Hcel.out _ (Below.refl _ _)
  go_upto_region 2 with (go_at_call 100; refine (Q1.out _).mono ?_; rintro e w1 ⟨rfl, hb1⟩; clear x0 x1 x2 x3 x4 x5; obtain ⟨x0, x1, x2, x3, x4, x5⟩ := Hcel.out _ hb1)
  go_upto_region 3 with (go_at_call 100; refine (Q2.out _).mono ?_; rintro e w2 ⟨rfl, hb2⟩; have hb2' := below_go hb2 hb1; clear x0 x1 x2 x3 x4 x5; obtain ⟨x0, x1, x2, x3, x4, x5⟩ := Hcel.out _ hb2')
  go_upto_region 4 with (go_at_call 100; refine (Q3.out _).mono ?_; rintro e w3 ⟨rfl, hb3⟩; have hb3' := below_go hb3 hb2'; clear x0 x1 x2 x3 x4 x5; obtain ⟨x0, x1, x2, x3, x4, x5⟩ := Hcel.out _ hb3')
  go_upto_region 5 with (go_at_call 101; refine (Q4.out _).mono ?_; rintro e w4 ⟨rfl, hb4⟩; have hb4' := below_go hb4 hb3'; clear x0 x1 x2 x3 x4 x5; obtain ⟨x0, x1, x2, x3, x4, x5⟩ := Hcel.out _ hb4')
  go_upto_region 6 with (go_at_call 101; refine (Q5.out _).mono ?_; rintro e w5 ⟨rfl, hb5⟩; have hb5' := below_go hb5 hb4'; clear x0 x1 x2 x3 x4 x5; obtain ⟨x0, x1, x2, x3, x4, x5⟩ := Hcel.out _ hb5')
  have hxx : ¬ 9223372036854775807 < L5.length + L6.length := by omega
  go_wp2_with (go_at_call 129; refine (Q6.out _ (below_go hb5' hbw)).mono ?_; rintro e w6 ⟨rfl, hb6⟩)
  go_ret
  exact ⟨by show Ending.returned (.string (str L5 ++ str L6)) = _; rw [str_append], below_go (below_go hb6 hb5') hbw⟩
end Go.Proofs.Ytcjabfdjngekfaa.Upd
