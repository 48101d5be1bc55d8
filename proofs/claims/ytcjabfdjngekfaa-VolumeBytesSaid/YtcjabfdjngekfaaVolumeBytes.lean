/- VolumeBytes' walk. -/
import Derived.Test.YtcjabfdjngekfaaVolLaw
set_option linter.unusedVariables false
set_option linter.unusedSimpArgs false
namespace Go.Proofs.Ytcjabfdjngekfaa.Vol
open Go.RowKit Go.Proofs.Ytcjabfdjngekfaa.Wd Go.Proofs.Ytcjabfdjngekfaa.EqF

set_option maxRecDepth 100000 in
set_option maxHeartbeats 4000000 in
theorem VolumeBytes_any (v : V) (vp vb : Value) (b : List UInt8) (w : World) (hv : VIn w v vp) (hb : Rd w 1 vb b.length (bs b)) :
    Calls Try.prog 8 #[.agg (vcells v vp).toArray, vb] w fun e w' => e = .returned (.bool true) ∧ Below w.heap.size w w' := by
  obtain ⟨A, c, rfl, hp1, hp2, -⟩ := hv.pc.slice_
  obtain ⟨Ab, cb, rfl, hb1, hb2, -⟩ := hb.slice_
  obtain ⟨W0, hW0⟩ : ∃ W, W = w.alloc (.cells (vcells v (.slice A v.pc.length c)).toArray 46) := ⟨_, rfl⟩
  have hg0 : W0.heap[w.heap.size]? = some (.cells (vcells v (.slice A v.pc.length c)).toArray 46 (0, 0)) := by rw [hW0]; exact heap_alloc_new _ _
  have hB0 : Below w.heap.size w W0 := by rw [hW0]; exact (Below.refl _ _).alloc (Nat.le_refl _) _
  obtain ⟨-, -, -, -, c36⟩ := vol_cells hv.bd hg0
  have hv0 : VIn W0 v (.slice A v.pc.length c) := hv.below hB0
  have hb0 : Rd W0 1 (.slice Ab b.length cb) b.length (bs b) := hb.below hB0
  have hLl : (vcells v (.slice A v.pc.length c)).length = 37 := vcells_length _ _ hv.bd
  have hL1 := vcells_one v (.slice A v.pc.length c) rfl
  have hRl : (rcells v).length = 37 := rcells_length _ hv.bd
  have hR1 := rcells_one v
  have hri : v.pc.length ≤ 140737488355328 → RIn v := fun h => ⟨hv.bd, hv.ix, hv.dt, hv.mr, hv.lg, h⟩
  have how := fun W (hW : Below W0.heap.size W0 W) => own_any v (.slice A v.pc.length c) W W (hv0.below hW)
  have hpu := fun W (hW : Below W0.heap.size W0 W) => put_any v (.slice A v.pc.length c) W (hv0.below hW)
  have hrg := fun W (hW : Below W0.heap.size W0 W) => right_any v (.slice A v.pc.length c) W W (hv0.below hW)
  have hr2 := fun W (h : RIn v) => rright_any v W h
  have hr3 := fun W (h : RIn v) (hr : v.right = true) => rput_any v W h hr
  obtain ⟨L, hL⟩ : ∃ L, L = vcells v (.slice A v.pc.length c) := ⟨_, rfl⟩
  obtain ⟨R, hR⟩ : ∃ R, R = rcells v := ⟨_, rfl⟩
  have hi : (Try.prog.info? 46).map (·.size) = some L.length := by rw [hL, hLl]; exact infoVol
  have hi2 : (Try.prog.info? 71).map (·.size) = some R.length := by rw [hR, hRl]; exact infoRef
  rw [← hL] at hW0 hg0 hLl hL1 how hpu hrg ⊢
  rw [← hR] at hRl hR1 how hr2 hr3
  have Hg0 := Lib.hid hg0
  have HL1 := Lib.hid hL1
  have HR1 := Lib.hid hR1
  have HRl := Lib.hid hRl
  have Hi := Lib.hid hi
  have Hi2 := Lib.hid hi2
  have Hri := Lib.hid hri
  have How := Lib.hid how
  have Hpu := Lib.hid hpu
  have Hrg := Lib.hid hrg
  have Hr2 := Lib.hid hr2
  have Hr3 := Lib.hid hr3
  have HW0 := Lib.hid hW0
  have Hb0 := Lib.hid hb0
  obtain ⟨pl, hpl⟩ : ∃ n, n = v.pc.length := ⟨_, rfl⟩
  rw [← hpl] at c36 hp1 Hri
  clear hg0 hL1 hR1 hRl hi hi2 hri how hpu hrg hr2 hr3 hW0 hL hR hLl hpl hv hv0 hb hb0
  by_cases h1 : pl ≤ 500
  rotate_left
  · have hd1 : decide ((500 : Int) < (pl : Int)) = true := decide_eq_true (by omega)
    go_enter Try.func8, Try.ntmps8
    go_upto_region 1 with fail
    rw [← HW0.out]
    go_wp2_with fail
    go_ret
    exact ⟨rfl, hB0⟩
  have hd1 : decide ((500 : Int) < (pl : Int)) = false := decide_eq_false (by omega)
  by_cases h2 : b.length ≤ 800
  rotate_left
  · have hd2 : decide ((800 : Int) < (b.length : Int)) = true := decide_eq_true (by omega)
    go_enter Try.func8, Try.ntmps8
    go_upto_region 1 with fail
    rw [← HW0.out]
    go_wp2_with fail
    go_ret
    exact ⟨rfl, hB0⟩
  have hd2 : decide ((800 : Int) < (b.length : Int)) = false := decide_eq_false (by omega)
  have hrin := Lib.hid (Hri.out (by omega))
  have H2 := Lib.hid h2
  have Hre := Lib.hid (fun W (hW : Below W0.heap.size W0 W) => read_any (.slice Ab b.length cb) b W (Hb0.out.below hW) (by omega))
  have Hrr := Lib.hid (fun W => rread_any b W (by omega))
  have Hrdin := Lib.hid (read_in b (by omega))
  have Hcv := Lib.hid (fun W (hW : Below W0.heap.size W0 W) => conv_rd b (Hb0.out.below hW))
  obtain ⟨er, her⟩ : ∃ e, e = errP v := ⟨_, rfl⟩
  obtain ⟨rt, hrt⟩ : ∃ r, r = v.right := ⟨_, rfl⟩
  obtain ⟨pn, hpn⟩ : ∃ n, n = (putl v).length := ⟨_, rfl⟩
  obtain ⟨y, hy⟩ : ∃ y, y = (V.read b).1 := ⟨_, rfl⟩
  obtain ⟨f, hf⟩ : ∃ f, f = ((V.read b).2 : Int) := ⟨_, rfl⟩
  rw [← her, ← hpn] at Hpu
  rw [← hrt] at Hrg Hr2 Hr3
  rw [← hy] at Hre Hrr Hrdin
  rw [← hf] at Hre Hrr
  have Her := Lib.hid her
  have Hrt := Lib.hid hrt
  have Hpn := Lib.hid hpn
  clear Hri h2 her hrt hpn hy hf Hb0
  go_enter Try.func8, Try.ntmps8
  go_upto_region 1 with fail
  rw [← HW0.out]
  go_upto_region 5 with (first
    | (refine wpList_load_mid rfl _ _ rfl w.heap.size 0 rfl L _ (range_all (by first | exact Hg0.out | exact blk_below Hg0.out hB3)) Try.underlying46 rfl Hi.out ?_)
    | (go_at_call 47; refine (How.out _ (Below.refl _ _)).mono ?_; rintro e w2 ⟨rfl, hB2⟩)
    | (refine Sha.wpList_store_all rfl 71 _ _ rfl w2.heap.size R rzero rfl rfl HR1.out (HRl.out.trans rzero_length.symm) Hi2.out 71 (heap_alloc_new w2 _) ?_; intro w3 hw3 hg3; have hB3 : Below W0.heap.size W0 w3 := (hB2.alloc hB2.size _).grown hg3 (by rw [alloc_size]; have := hB2.size; omega) (fun k hk => by injection hk with hk; rw [← hk]; exact hB2.size); clear hg3)
    | (go_at_call 33; refine (Hpu.out _ hB3).mono ?_; rintro e w4 ⟨v4, rfl, hr4, hb4⟩; obtain ⟨A4, c4, rfl, hc4, hc5, -⟩ := hr4.slice_; unfold maxLen at hc5; have Hr4 := Lib.hid hr4; have hB4 := below_go hb4 hB3; have Hw4 := Lib.hid (blk_below hw3.out hb4); clear hr4 hb4 hw3))
  have hS : ∀ W, Below w4.heap.size w4 W → W.rangeAt w.heap.size 0 L ∧ W.rangeAt w2.heap.size 0 R ∧ (convert 23 9 (.slice A4 pn c4)).run Try.prog W = .ok (.string (str (putl v))) W :=
    fun W hW => ⟨range_all (blk_below Hg0.out (below_go hW hB4)), range_all (blk_below Hw4.out hW), conv_rd _ (Hr4.out.below hW)⟩
  have HS := Lib.hid hS
  clear hS
  go_cut [63] from 28 to 62 (fun s4 wx => s4 = .bool false ∧ Below w4.heap.size w4 wx)
  case first =>
    cases rt with
    | true =>
      have he0 : er = 0 := by rw [Her.out, errP, ← Hrt.out]; rfl
      subst he0
      have hpl2 : putl v = v.put := by rw [putl, ← Hrt.out]; rfl
      rw [hpl2] at HS
      obtain ⟨q, hq⟩ : ∃ q, q = v.put := ⟨_, rfl⟩
      have hr3 := fun W => Hr3.out W hrin.out rfl
      rw [← hq] at HS hr3
      have Hr3' := Lib.hid hr3
      clear hq hpl2 hr3
      (refine Ord.wp_region_ord [(false, 0), (false, 2), (true, 1), (true, 3), (false, 4), (false, 5), (false, 6), (false, 7), (false, 8), (true, 9), (false, 10), (false, 11), (false, 12), (false, 13), (false, 14), (false, 15), (false, 16), (false, 17), (false, 18), (true, 19), (false, 20), (false, 21), (false, 22), (false, 23), (false, 24), (false, 25), (false, 26), (false, 27), (false, 28), (false, 29), (false, 30), (false, 31), (false, 32), (false, 33), (false, 34), (false, 35)] (fun W => W.rangeAt w.heap.size 0 L ∧ W.rangeAt w2.heap.size 0 R ∧ (convert 23 9 (.slice A4 pn c4)).run Try.prog W = .ok (.string (str q)) W) (by kernel_rfl) (by kernel_rfl) (by kernel_rfl) (by kernel_rfl) (by exact HS.out _ (Below.refl _ _).drew) ?_; simp only [Ord.ordOps, List.filterMap_cons, List.filterMap_nil, List.getElem?_toArray, List.getElem?_cons_succ, List.getElem?_cons_zero, Option.map_some]; repeat (first | (refine Ord.wpOrd_skip ?_ ?_; (focus (go_simp; (try (intro h; cases h)); done)); simp only [Act.put, List.setIfInBounds_toArray, List.set_cons_zero, List.set_cons_succ]) | (refine Ord.wpOrd_take (v := ?_) ?_ ?_ ?_; rotate_left; (focus (go_simp; done)); (focus (intro w' hSw; (try dsimp only at hSw); go_simp; (try with_reducible rfl); done)); simp only [Act.put, List.setIfInBounds_toArray, List.set_cons_zero, List.set_cons_succ])))
      refine Ord.wpOrd_load_mid ?_ 46 _ rfl w.heap.size 0 rfl L _ (fun w h => h.1) Try.underlying46 rfl Hi.out ?_
      · go_simp
      ((try simp only [Act.put, List.setIfInBounds_toArray, List.set_cons_zero, List.set_cons_succ]); repeat (first | (refine Ord.wpOrd_skip ?_ ?_; (focus (go_simp; (try (intro h; cases h)); done)); simp only [Act.put, List.setIfInBounds_toArray, List.set_cons_zero, List.set_cons_succ]) | (refine Ord.wpOrd_take (v := ?_) ?_ ?_ ?_; rotate_left; (focus (go_simp; done)); (focus (intro w' hSw; (try dsimp only at hSw); go_simp; (try with_reducible rfl); done)); simp only [Act.put, List.setIfInBounds_toArray, List.set_cons_zero, List.set_cons_succ])))
      refine Ord.wpOrd_load_mid ?_ 71 _ rfl w2.heap.size 0 rfl R _ (fun w h => h.2.1) Try.underlying71 rfl Hi2.out ?_
      · go_simp
      ((try simp only [Act.put, List.setIfInBounds_toArray, List.set_cons_zero, List.set_cons_succ]); repeat (first | (refine Ord.wpOrd_skip ?_ ?_; (focus (go_simp; (try (intro h; cases h)); done)); simp only [Act.put, List.setIfInBounds_toArray, List.set_cons_zero, List.set_cons_succ]) | (refine Ord.wpOrd_take (v := ?_) ?_ ?_ ?_; rotate_left; (focus (go_simp; done)); (focus (intro w' hSw; (try dsimp only at hSw); go_simp; (try with_reducible rfl); done)); simp only [Act.put, List.setIfInBounds_toArray, List.set_cons_zero, List.set_cons_succ])))
      (refine Ord.wpOrd_call ?_ (fun K hK => ?_); (focus (go_simp; done)); go_simp)
      go_at_call 32
      refine (Hrg.out _ hB4.drew).mono ?_
      rintro e w5 ⟨rfl, hb5⟩
      have hB5 := below_go hb5 (Below.refl w4.heap.size w4).drew
      clear hb5
      (refine hK _ _ (by exact HS.out _ hB5) ?_; clear hK K; (try simp only [Act.put, List.setIfInBounds_toArray, List.set_cons_zero, List.set_cons_succ]); repeat (first | (refine Ord.wpOrd_skip ?_ ?_; (focus (go_simp; (try (intro h; cases h)); done)); simp only [Act.put, List.setIfInBounds_toArray, List.set_cons_zero, List.set_cons_succ]) | (refine Ord.wpOrd_take (v := ?_) ?_ ?_ ?_; rotate_left; (focus (go_simp; done)); (focus (intro w' hSw; (try dsimp only at hSw); go_simp; (try with_reducible rfl); done)); simp only [Act.put, List.setIfInBounds_toArray, List.set_cons_zero, List.set_cons_succ])))
      (refine Ord.wpOrd_call ?_ (fun K hK => ?_); (focus (go_simp; done)); go_simp)
      go_at_call 48
      refine (Hr2.out _ hrin.out).mono ?_
      rintro e w6 ⟨rfl, hb6⟩
      have hB6 := below_go hb6 hB5
      clear hb6 hB5
      (refine hK _ _ (by exact HS.out _ hB6) ?_; clear hK K; (try simp only [Act.put, List.setIfInBounds_toArray, List.set_cons_zero, List.set_cons_succ]); repeat (first | (refine Ord.wpOrd_skip ?_ ?_; (focus (go_simp; (try (intro h; cases h)); done)); simp only [Act.put, List.setIfInBounds_toArray, List.set_cons_zero, List.set_cons_succ]) | (refine Ord.wpOrd_take (v := ?_) ?_ ?_ ?_; rotate_left; (focus (go_simp; done)); (focus (intro w' hSw; (try dsimp only at hSw); go_simp; (try with_reducible rfl); done)); simp only [Act.put, List.setIfInBounds_toArray, List.set_cons_zero, List.set_cons_succ])))
      refine Ord.wpOrd_load_mid ?_ 71 _ rfl w2.heap.size 0 rfl R _ (fun w h => h.2.1) Try.underlying71 rfl Hi2.out ?_
      · go_simp
      ((try simp only [Act.put, List.setIfInBounds_toArray, List.set_cons_zero, List.set_cons_succ]); repeat (first | (refine Ord.wpOrd_skip ?_ ?_; (focus (go_simp; (try (intro h; cases h)); done)); simp only [Act.put, List.setIfInBounds_toArray, List.set_cons_zero, List.set_cons_succ]) | (refine Ord.wpOrd_take (v := ?_) ?_ ?_ ?_; rotate_left; (focus (go_simp; done)); (focus (intro w' hSw; (try dsimp only at hSw); go_simp; (try with_reducible rfl); done)); simp only [Act.put, List.setIfInBounds_toArray, List.set_cons_zero, List.set_cons_succ])))
      (refine Ord.wpOrd_call ?_ (fun K hK => ?_); (focus (go_simp; done)); go_simp)
      go_at_call 48
      refine (Hr2.out _ hrin.out).mono ?_
      rintro e w7 ⟨rfl, hb7⟩
      have hB7 := below_go hb7 hB6
      clear hb7 hB6
      (refine hK _ _ (by exact HS.out _ hB7) ?_; clear hK K; (try simp only [Act.put, List.setIfInBounds_toArray, List.set_cons_zero, List.set_cons_succ]); repeat (first | (refine Ord.wpOrd_skip ?_ ?_; (focus (go_simp; (try (intro h; cases h)); done)); simp only [Act.put, List.setIfInBounds_toArray, List.set_cons_zero, List.set_cons_succ]) | (refine Ord.wpOrd_take (v := ?_) ?_ ?_ ?_; rotate_left; (focus (go_simp; done)); (focus (intro w' hSw; (try dsimp only at hSw); go_simp; (try with_reducible rfl); done)); simp only [Act.put, List.setIfInBounds_toArray, List.set_cons_zero, List.set_cons_succ])))
      refine Ord.wpOrd_load_mid ?_ 71 _ rfl w2.heap.size 0 rfl R _ (fun w h => h.2.1) Try.underlying71 rfl Hi2.out ?_
      · go_simp
      ((try simp only [Act.put, List.setIfInBounds_toArray, List.set_cons_zero, List.set_cons_succ]); repeat (first | (refine Ord.wpOrd_skip ?_ ?_; (focus (go_simp; (try (intro h; cases h)); done)); simp only [Act.put, List.setIfInBounds_toArray, List.set_cons_zero, List.set_cons_succ]) | (refine Ord.wpOrd_take (v := ?_) ?_ ?_ ?_; rotate_left; (focus (go_simp; done)); (focus (intro w' hSw; (try dsimp only at hSw); go_simp; (try with_reducible rfl); done)); simp only [Act.put, List.setIfInBounds_toArray, List.set_cons_zero, List.set_cons_succ])))
      (refine Ord.wpOrd_call ?_ (fun K hK => ?_); (focus (go_simp; done)); go_simp)
      go_at_call 49
      refine (Hr3'.out _).mono ?_
      rintro e w8 ⟨rfl, hb8⟩
      have hB8 := below_go hb8 hB7
      clear hb8 hB7
      (refine hK _ _ (by exact HS.out _ hB8) ?_; clear hK K; (try simp only [Act.put, List.setIfInBounds_toArray, List.set_cons_zero, List.set_cons_succ]); repeat (first | (refine Ord.wpOrd_skip ?_ ?_; (focus (go_simp; (try (intro h; cases h)); done)); simp only [Act.put, List.setIfInBounds_toArray, List.set_cons_zero, List.set_cons_succ]) | (refine Ord.wpOrd_take (v := ?_) ?_ ?_ ?_; rotate_left; (focus (go_simp; done)); (focus (intro w' hSw; (try dsimp only at hSw); go_simp; (try with_reducible rfl); done)); simp only [Act.put, List.setIfInBounds_toArray, List.set_cons_zero, List.set_cons_succ])))
      refine Ord.wpOrd_nil ?_
      go_wp2_with fail
      go_meet
      exact ⟨rfl, hB8⟩
    | false =>
      have he0 : er = 2 := by rw [Her.out, errP, ← Hrt.out]; rfl
      subst he0
      have hpl2 : putl v = [] := by rw [putl, ← Hrt.out]; rfl
      have hpn0 : pn = 0 := by rw [Hpn.out, hpl2]; rfl
      subst hpn0
      clear hpl2 Hr3
      (refine Ord.wp_region_ord [(false, 0), (false, 2), (true, 1), (true, 3), (false, 4), (false, 5), (false, 6), (false, 7), (false, 8), (true, 9), (false, 10), (false, 11), (false, 12), (false, 13), (false, 14), (false, 15), (false, 16), (false, 17), (false, 18), (true, 19), (false, 20), (false, 21), (false, 22), (false, 23), (false, 24), (false, 25), (false, 26), (false, 27), (false, 28), (false, 29), (false, 30), (false, 31), (false, 32), (false, 33), (false, 34), (false, 35)] (fun W => W.rangeAt w.heap.size 0 L ∧ W.rangeAt w2.heap.size 0 R ∧ (convert 23 9 (.slice A4 0 c4)).run Try.prog W = .ok (.string (str (putl v))) W) (by kernel_rfl) (by kernel_rfl) (by kernel_rfl) (by kernel_rfl) (by exact HS.out _ (Below.refl _ _).drew) ?_; simp only [Ord.ordOps, List.filterMap_cons, List.filterMap_nil, List.getElem?_toArray, List.getElem?_cons_succ, List.getElem?_cons_zero, Option.map_some]; repeat (first | (refine Ord.wpOrd_skip ?_ ?_; (focus (go_simp; (try (intro h; cases h)); done)); simp only [Act.put, List.setIfInBounds_toArray, List.set_cons_zero, List.set_cons_succ]) | (refine Ord.wpOrd_take (v := ?_) ?_ ?_ ?_; rotate_left; (focus (go_simp; done)); (focus (intro w' hSw; (try dsimp only at hSw); go_simp; (try with_reducible rfl); done)); simp only [Act.put, List.setIfInBounds_toArray, List.set_cons_zero, List.set_cons_succ])))
      refine Ord.wpOrd_load_mid ?_ 46 _ rfl w.heap.size 0 rfl L _ (fun w h => h.1) Try.underlying46 rfl Hi.out ?_
      · go_simp
      ((try simp only [Act.put, List.setIfInBounds_toArray, List.set_cons_zero, List.set_cons_succ]); repeat (first | (refine Ord.wpOrd_skip ?_ ?_; (focus (go_simp; (try (intro h; cases h)); done)); simp only [Act.put, List.setIfInBounds_toArray, List.set_cons_zero, List.set_cons_succ]) | (refine Ord.wpOrd_take (v := ?_) ?_ ?_ ?_; rotate_left; (focus (go_simp; done)); (focus (intro w' hSw; (try dsimp only at hSw); go_simp; (try with_reducible rfl); done)); simp only [Act.put, List.setIfInBounds_toArray, List.set_cons_zero, List.set_cons_succ])))
      refine Ord.wpOrd_load_mid ?_ 71 _ rfl w2.heap.size 0 rfl R _ (fun w h => h.2.1) Try.underlying71 rfl Hi2.out ?_
      · go_simp
      ((try simp only [Act.put, List.setIfInBounds_toArray, List.set_cons_zero, List.set_cons_succ]); repeat (first | (refine Ord.wpOrd_skip ?_ ?_; (focus (go_simp; (try (intro h; cases h)); done)); simp only [Act.put, List.setIfInBounds_toArray, List.set_cons_zero, List.set_cons_succ]) | (refine Ord.wpOrd_take (v := ?_) ?_ ?_ ?_; rotate_left; (focus (go_simp; done)); (focus (intro w' hSw; (try dsimp only at hSw); go_simp; (try with_reducible rfl); done)); simp only [Act.put, List.setIfInBounds_toArray, List.set_cons_zero, List.set_cons_succ])))
      (refine Ord.wpOrd_call ?_ (fun K hK => ?_); (focus (go_simp; done)); go_simp)
      go_at_call 32
      refine (Hrg.out _ hB4.drew).mono ?_
      rintro e w5 ⟨rfl, hb5⟩
      have hB5 := below_go hb5 (Below.refl w4.heap.size w4).drew
      clear hb5
      (refine hK _ _ (by exact HS.out _ hB5) ?_; clear hK K; (try simp only [Act.put, List.setIfInBounds_toArray, List.set_cons_zero, List.set_cons_succ]); repeat (first | (refine Ord.wpOrd_skip ?_ ?_; (focus (go_simp; (try (intro h; cases h)); done)); simp only [Act.put, List.setIfInBounds_toArray, List.set_cons_zero, List.set_cons_succ]) | (refine Ord.wpOrd_take (v := ?_) ?_ ?_ ?_; rotate_left; (focus (go_simp; done)); (focus (intro w' hSw; (try dsimp only at hSw); go_simp; (try with_reducible rfl); done)); simp only [Act.put, List.setIfInBounds_toArray, List.set_cons_zero, List.set_cons_succ])))
      (refine Ord.wpOrd_call ?_ (fun K hK => ?_); (focus (go_simp; done)); go_simp)
      go_at_call 48
      refine (Hr2.out _ hrin.out).mono ?_
      rintro e w6 ⟨rfl, hb6⟩
      have hB6 := below_go hb6 hB5
      clear hb6 hB5
      (refine hK _ _ (by exact HS.out _ hB6) ?_; clear hK K; (try simp only [Act.put, List.setIfInBounds_toArray, List.set_cons_zero, List.set_cons_succ]); repeat (first | (refine Ord.wpOrd_skip ?_ ?_; (focus (go_simp; (try (intro h; cases h)); done)); simp only [Act.put, List.setIfInBounds_toArray, List.set_cons_zero, List.set_cons_succ]) | (refine Ord.wpOrd_take (v := ?_) ?_ ?_ ?_; rotate_left; (focus (go_simp; done)); (focus (intro w' hSw; (try dsimp only at hSw); go_simp; (try with_reducible rfl); done)); simp only [Act.put, List.setIfInBounds_toArray, List.set_cons_zero, List.set_cons_succ])))
      refine Ord.wpOrd_load_mid ?_ 71 _ rfl w2.heap.size 0 rfl R _ (fun w h => h.2.1) Try.underlying71 rfl Hi2.out ?_
      · go_simp
      ((try simp only [Act.put, List.setIfInBounds_toArray, List.set_cons_zero, List.set_cons_succ]); repeat (first | (refine Ord.wpOrd_skip ?_ ?_; (focus (go_simp; (try (intro h; cases h)); done)); simp only [Act.put, List.setIfInBounds_toArray, List.set_cons_zero, List.set_cons_succ]) | (refine Ord.wpOrd_take (v := ?_) ?_ ?_ ?_; rotate_left; (focus (go_simp; done)); (focus (intro w' hSw; (try dsimp only at hSw); go_simp; (try with_reducible rfl); done)); simp only [Act.put, List.setIfInBounds_toArray, List.set_cons_zero, List.set_cons_succ])))
      (refine Ord.wpOrd_call ?_ (fun K hK => ?_); (focus (go_simp; done)); go_simp)
      go_at_call 48
      refine (Hr2.out _ hrin.out).mono ?_
      rintro e w7 ⟨rfl, hb7⟩
      have hB7 := below_go hb7 hB6
      clear hb7 hB6
      (refine hK _ _ (by exact HS.out _ hB7) ?_; clear hK K; (try simp only [Act.put, List.setIfInBounds_toArray, List.set_cons_zero, List.set_cons_succ]); repeat (first | (refine Ord.wpOrd_skip ?_ ?_; (focus (go_simp; (try (intro h; cases h)); done)); simp only [Act.put, List.setIfInBounds_toArray, List.set_cons_zero, List.set_cons_succ]) | (refine Ord.wpOrd_take (v := ?_) ?_ ?_ ?_; rotate_left; (focus (go_simp; done)); (focus (intro w' hSw; (try dsimp only at hSw); go_simp; (try with_reducible rfl); done)); simp only [Act.put, List.setIfInBounds_toArray, List.set_cons_zero, List.set_cons_succ])))
      refine Ord.wpOrd_nil ?_
      go_wp2_with fail
      go_meet
      exact ⟨rfl, hB7⟩
  case rest =>
    obtain ⟨rfl, hBc⟩ := hcut
    have hB4c := below_then hB4 hB4.size hBc
    clear HS Hr4 Hw4 hBc hB4 Hpu Hrg Hr2 Hr3 hrin hd1 hd2 hc4 hc5
    have hcv := Hcv.out
    go_upto_region 9 with (first
      | (go_at_call 34; refine (Hre.out _ hB4c).mono ?_; rintro e w5 ⟨vp5, rfl, hr5, hb5⟩; have hB5 := below_go hb5 hB4c; obtain ⟨L5, hL5⟩ : ∃ L5, L5 = vcells y vp5 := ⟨_, rfl⟩; obtain ⟨A5, c5, hvp5, -, -, -⟩ := hr5.slice_; have HL51 : Hid (∀ u ∈ L5, u.oneCell' = true) := (by show _; rw [hL5, hvp5]; exact vcells_one _ _ rfl); have HL5l : Hid (L5.length = 37) := (by show _; rw [hL5]; exact vcells_length _ _ Hrdin.out.1); have Hi5 : Hid ((Try.prog.info? 46).map (·.size) = some L5.length) := (by show _ = _; rw [HL5l.out]; exact infoVol); have HL5 := Lib.hid hL5; have Hr5 := Lib.hid hr5; rw [← hL5]; clear hb5 hvp5 hr5 hL5)
      | (refine Sha.wpList_store_all rfl 46 _ _ rfl w5.heap.size L5 zcells rfl rfl HL51.out (HL5l.out.trans (vcells_length _ _ rfl).symm) Hi5.out 46 (heap_alloc_new w5 _) ?_; intro w6 Hw6 hg6; have hb56 : Below w5.heap.size w5 w6 := ((Below.refl _ _).alloc (Nat.le_refl _) _).grown hg6 (by simp) (fun k hk => by injection hk with hk; omega); have hB6 := below_go hb56 hB5; have Hr6 := Lib.hid (Hr5.out.below hb56); have hcv6 := hcv _ hB6; clear hg6 hb56)
      | (go_at_call 50; refine (Hrr.out _).mono ?_; rintro e w7 ⟨rfl, hb7⟩; have hB7 := below_go hb7 hB6; have Hr7 := Lib.hid (Hr6.out.below hb7); have Hw7 := Lib.hid (blk_below Hw6.out hb7); obtain ⟨R7, hR7⟩ : ∃ R7, R7 = rcells y := ⟨_, rfl⟩; have HR7 := Lib.hid hR7; have HR71 : Hid (∀ u ∈ R7, u.oneCell' = true) := (by show _; rw [hR7]; exact rcells_one _); have HR7l : Hid (R7.length = 37) := (by show _; rw [hR7]; exact rcells_length _ Hrdin.out.1); have Hi7 : Hid ((Try.prog.info? 71).map (·.size) = some R7.length) := (by show _ = _; rw [HR7l.out]; exact infoRef); rw [← hR7]; clear hb7 hcv6 hR7)
      | (refine Sha.wpList_store_all rfl 71 _ _ rfl w7.heap.size R7 rzero rfl rfl HR71.out (HR7l.out.trans rzero_length.symm) Hi7.out 71 (heap_alloc_new w7 _) ?_; intro w8 Hw8 hg8; have hb78 : Below w7.heap.size w7 w8 := ((Below.refl _ _).alloc (Nat.le_refl _) _).grown hg8 (by simp) (fun k hk => by injection hk with hk; omega); have hB8 := below_go hb78 hB7; have Hr8 := Lib.hid (Hr7.out.below hb78); have Hw58 := Lib.hid (blk_below Hw7.out hb78); clear hg8 hb78))
    have hS : ∀ W, Below w8.heap.size w8 W → W.rangeAt w5.heap.size 0 L5 ∧ W.rangeAt w7.heap.size 0 R7 := fun W hW => ⟨range_all (blk_below Hw58.out hW), range_all (blk_below Hw8.out hW)⟩
    have ho5 : ∀ W, Below w8.heap.size w8 W → Calls Try.prog 47 #[.agg L5.toArray] W fun e w' => e = .returned (.agg R7.toArray) ∧ Below W.heap.size W w' := by
      intro W hW
      obtain ⟨i1, i2, i3, i4, i5, -⟩ := Hrdin.out
      rw [HL5.out, HR7.out]
      exact own_any y vp5 W W ⟨i1, i2, i3, i4, i5, Hr8.out.below hW⟩
    have hq : ∀ W, (binOp .eql 71 (.agg R7.toArray) (.agg R7.toArray)).run Try.prog W = .ok (.bool true) W := by
      intro W; rw [HR7.out]; exact eqlRef W y Hrdin.out.1
    have HS := Lib.hid hS
    have Ho5 := Lib.hid ho5
    have Hq := Lib.hid hq
    clear hS ho5 hq hcv
    (refine Ord.wp_region_ord [(false, 0), (false, 1), (false, 2), (false, 3), (false, 4), (false, 6), (true, 5), (false, 7), (false, 8), (false, 9), (true, 10), (false, 11), (false, 12)] (fun W => W.rangeAt w5.heap.size 0 L5 ∧ W.rangeAt w7.heap.size 0 R7) (by kernel_rfl) (by kernel_rfl) (by kernel_rfl) (by kernel_rfl) (by exact HS.out _ (Below.refl _ _).drew) ?_; simp only [Ord.ordOps, List.filterMap_cons, List.filterMap_nil, List.getElem?_toArray, List.getElem?_cons_succ, List.getElem?_cons_zero, Option.map_some]; repeat (first | (refine Ord.wpOrd_skip ?_ ?_; (focus (go_simp; (try (intro h; cases h)); done)); simp only [Act.put, List.setIfInBounds_toArray, List.set_cons_zero, List.set_cons_succ]) | (refine Ord.wpOrd_take (v := ?_) ?_ ?_ ?_; rotate_left; (focus (go_simp; done)); (focus (intro w' hSw; (try dsimp only at hSw); go_simp; (try with_reducible rfl); done)); simp only [Act.put, List.setIfInBounds_toArray, List.set_cons_zero, List.set_cons_succ])))
    refine Ord.wpOrd_load_mid ?_ 46 _ rfl w5.heap.size 0 rfl L5 _ (fun w h => h.1) Try.underlying46 rfl Hi5.out ?_
    · go_simp
    ((try simp only [Act.put, List.setIfInBounds_toArray, List.set_cons_zero, List.set_cons_succ]); repeat (first | (refine Ord.wpOrd_skip ?_ ?_; (focus (go_simp; (try (intro h; cases h)); done)); simp only [Act.put, List.setIfInBounds_toArray, List.set_cons_zero, List.set_cons_succ]) | (refine Ord.wpOrd_take (v := ?_) ?_ ?_ ?_; rotate_left; (focus (go_simp; done)); (focus (intro w' hSw; (try dsimp only at hSw); go_simp; (try with_reducible rfl); done)); simp only [Act.put, List.setIfInBounds_toArray, List.set_cons_zero, List.set_cons_succ])))
    refine Ord.wpOrd_load_mid ?_ 71 _ rfl w7.heap.size 0 rfl R7 _ (fun w h => h.2) Try.underlying71 rfl Hi7.out ?_
    · go_simp
    ((try simp only [Act.put, List.setIfInBounds_toArray, List.set_cons_zero, List.set_cons_succ]); repeat (first | (refine Ord.wpOrd_skip ?_ ?_; (focus (go_simp; (try (intro h; cases h)); done)); simp only [Act.put, List.setIfInBounds_toArray, List.set_cons_zero, List.set_cons_succ]) | (refine Ord.wpOrd_take (v := ?_) ?_ ?_ ?_; rotate_left; (focus (go_simp; done)); (focus (intro w' hSw; (try dsimp only at hSw); go_simp; (try with_reducible rfl); done)); simp only [Act.put, List.setIfInBounds_toArray, List.set_cons_zero, List.set_cons_succ])))
    (refine Ord.wpOrd_call ?_ (fun K hK => ?_); (focus (go_simp; done)); go_simp)
    go_at_call 47
    refine (Ho5.out _ (Below.refl _ _).drew).mono ?_
    rintro e w9 ⟨rfl, hb9⟩
    have hB9 := below_go hb9 (Below.refl w8.heap.size w8).drew
    clear hb9
    (refine hK _ _ (by exact HS.out _ hB9) ?_; clear hK K; (try simp only [Act.put, List.setIfInBounds_toArray, List.set_cons_zero, List.set_cons_succ]); repeat (first | (refine Ord.wpOrd_skip ?_ ?_; (focus (go_simp; (try (intro h; cases h)); done)); simp only [Act.put, List.setIfInBounds_toArray, List.set_cons_zero, List.set_cons_succ]) | (refine Ord.wpOrd_take (v := ?_) ?_ ?_ ?_; rotate_left; (focus (go_simp; done)); (focus (intro w' hSw; (try dsimp only at hSw); go_simp; (try with_reducible rfl); done)); simp only [Act.put, List.setIfInBounds_toArray, List.set_cons_zero, List.set_cons_succ])))
    refine Ord.wpOrd_bin ?_ .eql 71 _ _ _ rfl (.agg R7.toArray) (.agg R7.toArray) (.bool true) rfl rfl (fun w' => run_eqGuard_agg w' _ _ _ _ _ _ (by kernel_rfl)) Hq.out ?_
    · go_simp
    ((try simp only [Act.put, List.setIfInBounds_toArray, List.set_cons_zero, List.set_cons_succ]); repeat (first | (refine Ord.wpOrd_skip ?_ ?_; (focus (go_simp; (try (intro h; cases h)); done)); simp only [Act.put, List.setIfInBounds_toArray, List.set_cons_zero, List.set_cons_succ]) | (refine Ord.wpOrd_take (v := ?_) ?_ ?_ ?_; rotate_left; (focus (go_simp; done)); (focus (intro w' hSw; (try dsimp only at hSw); go_simp; (try with_reducible rfl); done)); simp only [Act.put, List.setIfInBounds_toArray, List.set_cons_zero, List.set_cons_succ])))
    (refine Ord.wpOrd_call ?_ (fun K hK => ?_); (focus (go_simp; done)); go_simp)
    go_at_call 31
    refine (one21_any _).mono ?_
    rintro e wa ⟨rfl, hba⟩
    have hBa := below_go hba hB9
    clear hba
    (refine hK _ _ (by exact HS.out _ hBa) ?_; clear hK K; (try simp only [Act.put, List.setIfInBounds_toArray, List.set_cons_zero, List.set_cons_succ]); repeat (first | (refine Ord.wpOrd_skip ?_ ?_; (focus (go_simp; (try (intro h; cases h)); done)); simp only [Act.put, List.setIfInBounds_toArray, List.set_cons_zero, List.set_cons_succ]) | (refine Ord.wpOrd_take (v := ?_) ?_ ?_ ?_; rotate_left; (focus (go_simp; done)); (focus (intro w' hSw; (try dsimp only at hSw); go_simp; (try with_reducible rfl); done)); simp only [Act.put, List.setIfInBounds_toArray, List.set_cons_zero, List.set_cons_succ])))
    refine Ord.wpOrd_nil ?_
    go_wp2_with fail
    go_ret
    exact ⟨rfl, below_go hBa (below_go hB8 hB0)⟩
end Go.Proofs.Ytcjabfdjngekfaa.Vol
