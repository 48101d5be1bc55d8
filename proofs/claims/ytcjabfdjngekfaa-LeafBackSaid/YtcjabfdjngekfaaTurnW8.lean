/- Leaves that turn: the reference with an entry. -/
import Derived.Test.YtcjabfdjngekfaaTurnW7
set_option linter.unusedVariables false
set_option linter.unusedSimpArgs false
namespace Go.Proofs.Ytcjabfdjngekfaa.Leaf
open Go.RowKit Go.Proofs.Ytcjabfdjngekfaa.Wd Go.Proofs.Ytcjabfdjngekfaa.Use Go.Proofs.Ytcjabfdjngekfaa.Lay
open Go.Proofs.Ytcjabfdjngekfaa.Rel (env_cells)

set_option maxRecDepth 100000 in
set_option maxHeartbeats 8000000 in
theorem rWith_any (l : List L) (e : L) (v : Value) (w : World) (hv : Rd w 3 v l.length (ls l)) (hn : l.length ≤ 1000000) (hk : ∀ e ∈ l, e.key.length ≤ 1000000) (hke : e.key.length ≤ 1000000) :
    Calls Try.prog 57 #[v, .agg #[.string (str e.key), .int .i64 e.first, .int .i64 e.len]] w fun r w' => ∃ (k : Nat) (v' : Value), k ≤ (without l e.key).length ∧ (∀ j, j < k → Op.bytesLess (ky (without l e.key) j) e.key = true) ∧ (k = (without l e.key).length ∨ Op.bytesLess (ky (without l e.key) k) e.key = false) ∧ r = .returned v' ∧ Rd w' 3 v' ((without l e.key).take k ++ e :: (without l e.key).drop k).length (ls ((without l e.key).take k ++ e :: (without l e.key).drop k)) ∧ Below w.heap.size w w' := by
  have hB1 := below_one w (.cells #[.string (str e.key), .int .i64 e.first, .int .i64 e.len] 87)
  have hblk := heap_alloc_new w (.cells #[.string (str e.key), .int .i64 e.first, .int .i64 e.len] 87)
  obtain ⟨W1, hW1⟩ : ∃ W, W = w.alloc (.cells #[.string (str e.key), .int .i64 e.first, .int .i64 e.len] 87) := ⟨_, rfl⟩
  rw [← hW1] at hB1 hblk
  have Hwo := Lib.hid (rWithout_any l e.key v W1 (hv.below hB1) hn)
  have hwl : (without l e.key).length ≤ l.length := List.length_filter_le _ _
  have hwk : ∀ k, k < (without l e.key).length → (ky (without l e.key) k).length ≤ maxLen := fun k h => by
    have h1 : (without l e.key)[k] ∈ l := (List.mem_filter.1 (List.getElem_mem h)).1
    have := hk _ h1
    rw [ky, List.getD_eq_getElem?_getD, List.getElem?_eq_getElem h]
    unfold maxLen; simp only [Option.getD_some]; omega
  have Hwk := Lib.hid hwk
  obtain ⟨A, c, rfl, hc1, hc2, -⟩ := hv.slice_
  unfold maxLen at hc2
  have HW1 := Lib.hid hW1
  obtain ⟨g0, hg0⟩ : ∃ g, g = w.heap.size := ⟨_, rfl⟩
  rw [← hg0] at hblk
  have Hblk := Lib.hid hblk
  have hg0l : g0 < W1.heap.size := blk_lt hblk
  obtain ⟨c0, c1, c2⟩ := env_cells hblk
  generalize without l e.key = wl at Hwo hwl Hwk
  clear hv hW1 hwk hk hblk
  go_enter Try.func57, Try.ntmps57
  go_upto_region 1 with fail
  rw [← HW1.out]
  rw [← hg0]
  clear hg0
  go_wp2_with (go_at_call 58; refine Hwo.out.mono ?_; rintro r w2 ⟨v2, rfl, hr2, hb2⟩; obtain ⟨A2, c2', rfl, hq1, hq2, -⟩ := hr2.slice_; have Hr2 := Lib.hid hr2; have hB2 := below_go hb2 hB1; have Hb2 := Lib.hid (blk_below Hblk.out hb2); clear hr2)
  unfold maxLen at hq2
  clear c0 c1 c2
  go_loopw [5] (fun i_ wr => ∃ k : Nat, k ≤ wl.length ∧ i_ = .int .i64 (k : Int) ∧ Hid (∀ j, j < k → Op.bytesLess (ky wl j) e.key = true) ∧ Below w2.heap.size w2 wr) (fun i_ _ => wl.length - (intOf i_).toNat)
  case atStart => exact ⟨0, Nat.zero_le _, rfl, Lib.hid (fun j hj => by omega), Below.refl _ _⟩
  case round =>
    obtain ⟨k, hkl, rfl, Hlo, hB⟩ := hrel
    obtain ⟨c0, c1, c2⟩ := env_cells (blk_below Hb2.out hB)
    have i0 : (0 : Int) ≤ (k : Int) := by omega
    have i1 : (k : Int) ≤ (wl.length : Int) := by omega
    have i2 : (k : Int) ≤ (c2' : Int) := by omega
    have i3 : k ≤ wl.length := by omega
    have i4 : k ≤ c2' := by omega
    by_cases hkn : k < wl.length
    rotate_left
    · have hd1 : decide ((k : Int) < (wl.length : Int)) = false := decide_eq_false (by omega)
      have hkw : wl.length = k := by omega
      have Hkw := Lib.hid hkw
      have Hend := Lib.hid (show k = wl.length ∨ Op.bytesLess (ky wl k) e.key = false from .inl hkw.symm)
      clear hkw c0 c1 c2
      go_upto_region 3 with fail
      (refine Ord.wp_region_ord [(false, 0), (false, 1), (false, 2), (false, 3), (false, 4), (false, 5), (false, 6), (false, 7), (false, 8), (false, 9), (false, 10), (false, 11), (true, 12), (false, 13)] (fun W => True) (by kernel_rfl) (by kernel_rfl) (by kernel_rfl) (by kernel_rfl) (by trivial) ?_; simp only [Ord.ordOps, List.filterMap_cons, List.filterMap_nil, List.getElem?_toArray, List.getElem?_cons_succ, List.getElem?_cons_zero, Option.map_some]; repeat (first | (refine Ord.wpOrd_skip ?_ ?_; (focus (go_simp; (try (intro h; cases h)); done)); simp only [Act.put, List.setIfInBounds_toArray, List.set_cons_zero, List.set_cons_succ]) | (refine Ord.wpOrd_take (v := ?_) ?_ ?_ ?_; rotate_left; (focus (go_simp; done)); (focus (intro w' hSw; (try dsimp only at hSw); go_simp; (try with_reducible rfl); done)); simp only [Act.put, List.setIfInBounds_toArray, List.set_cons_zero, List.set_cons_succ])))
      refine Ord.wpOrd_nil ?_
      go_upto_region 5 with fail
      have Hsb := Lib.hid (fun W (h : Below w2.heap.size w2 W) => (show (W.cell? ⟨g0, 0, none⟩ = some (.string (str e.key)) ∧ W.cell? ⟨g0, 1, none⟩ = some (.int .i64 e.first) ∧ W.cell? ⟨g0, 2, none⟩ = some (.int .i64 e.len)) from env_cells (blk_below Hb2.out h)))
      have Ht := Lib.hid (fun W (h : Below w2.heap.size w2 W) => Rd_take3 (Hr2.out.below h) rfl k hkl)
      have Hd := Lib.hid (fun W (h : Below w2.heap.size w2 W) => Rd_drop3 (A' := if c2' = k then A2 else Option.map (fun x => x.add (k * 3)) A2) (Hr2.out.below h) rfl k hkl (fun h => absurd h (by have := Hkw.out; omega)))
      have H1 := Lib.hid (show ∀ u ∈ e.cs, u.oneCell' = true by intro u hu; simp [L.cs] at hu; rcases hu with rfl | rfl | rfl <;> rfl)
      obtain ⟨WX, hWX⟩ : ∃ W, W = wr.drew := ⟨_, rfl⟩
      have hBX := hB.drew
      have hEnd := Hend.out
      rw [← hWX] at hBX
      rw [← hWX]
      have HWX := Lib.hid hWX
      have HEnd := Lib.hid hEnd
      have hls : ls (wl.take k) ++ e.cs ++ ls (wl.drop k) = ls (wl.take k ++ e :: wl.drop k) := by simp [ls]
      have Hls := Lib.hid hls
      have htl : (wl.take k).length = k := by rw [List.length_take]; omega
      have hdl : (wl.drop k).length = wl.length - k := List.length_drop
      clear hWX hEnd hls
      obtain ⟨tk, htk⟩ : ∃ x, x = wl.take k := ⟨_, rfl⟩
      obtain ⟨dk, hdk⟩ : ∃ x, x = wl.drop k := ⟨_, rfl⟩
      rw [← htk] at Ht Hls htl
      rw [← hdk] at Hd Hls hdl
      rw [htl] at Ht
      rw [hdl] at Hd
      have Htk := Lib.hid htk
      have Hdk := Lib.hid hdk
      clear htk hdk
      (refine Ord.wp_region_tree (Ord.OT.of [(false, 1), (false, 2), (false, 3), (false, 5), (false, 8), (false, 9), (false, 10)] (Ord.OT.two 0 (Ord.OT.of [] (Ord.OT.two 4 (Ord.OT.of [(true, 6), (true, 7), (true, 11), (false, 12)] Ord.OT.nil) 6 (Ord.OT.of [(true, 4), (true, 7), (true, 11), (false, 12)] Ord.OT.nil))) 6 (Ord.OT.of [(true, 0), (true, 4), (true, 7), (true, 11), (false, 12)] Ord.OT.nil))) (fun W => (W.cell? ⟨g0, 0, none⟩ = some (.string (str e.key)) ∧ W.cell? ⟨g0, 1, none⟩ = some (.int .i64 e.first) ∧ W.cell? ⟨g0, 2, none⟩ = some (.int .i64 e.len))) (by kernel_rfl) (by kernel_rfl) (by kernel_rfl) (by kernel_rfl) (by exact Hsb.out _ hBX.drew) ?_; simp only [Ord.OT.of, Ord.OT.opers, List.getElem?_toArray, List.getElem?_cons_succ, List.getElem?_cons_zero]; repeat (first | (refine Ord.wpT_skip ?_ ?_; (focus (go_simp; (try (intro h; cases h)); done)); simp only [Act.put, List.setIfInBounds_toArray, List.set_cons_zero, List.set_cons_succ]) | (refine Ord.wpT_take (v := ?_) ?_ ?_ ?_; rotate_left; (focus (go_simp; done)); (focus (intro w' hSw; (try dsimp only at hSw); go_simp; (try with_reducible rfl); done)); simp only [Act.put, List.setIfInBounds_toArray, List.set_cons_zero, List.set_cons_succ])))
      refine Ord.wpT_two ?_ ?_
      · (refine Ord.wpT_call ?_ (fun K hK => ?_); (focus (go_simp; done)); go_simp)
        have hB4 : Below WX.heap.size WX (WX.alloc (.cells #[] 87)).drew := (below_one _ _).drew
        (refine hK _ _ (by exact Hsb.out _ (below_go hB4 hBX)) ?_; clear hK K; (try simp only [Act.put, List.setIfInBounds_toArray, List.set_cons_zero, List.set_cons_succ]); repeat (first | (refine Ord.wpT_skip ?_ ?_; (focus (go_simp; (try (intro h; cases h)); done)); simp only [Act.put, List.setIfInBounds_toArray, List.set_cons_zero, List.set_cons_succ]) | (refine Ord.wpT_take (v := ?_) ?_ ?_ ?_; rotate_left; (focus (go_simp; done)); (focus (intro w' hSw; (try dsimp only at hSw); go_simp; (try with_reducible rfl); done)); simp only [Act.put, List.setIfInBounds_toArray, List.set_cons_zero, List.set_cons_succ])))
        have HO4 := Lib.hid (own_below (own_empty WX WX.heap.size 87 3 (Nat.le_refl _)) (show Below (WX.alloc (.cells #[] 87)).heap.size (WX.alloc (.cells #[] 87)) (WX.alloc (.cells #[] 87)).drew from (Below.refl _ _).drew))
        refine Ord.wpT_two ?_ ?_
        · refine Ord.wpT_app_row elRef ?_ (.tmp 26) (.tmp 29) rfl WX.heap.size (.slice (some ⟨WX.heap.size, 0, none⟩) 0 0) _ 0 k [] (ls tk) rfl rfl (ls_one _) HO4.out (Ht.out _ (below_go hB4 hBX)) hB4.size (by omega) (fun v7 w7 ho7 hg7 hat7 => ?_)
          · go_simp
          rw [Nat.zero_add, List.nil_append] at ho7
          have hB7 := hB4.grown hg7 hB4.size (own_base HO4.out)
          refine ⟨Hsb.out _ (below_go hB7 hBX), ?_⟩
          have HO6 := Lib.hid ho7
          clear ho7 hg7 hat7
          ((try simp only [Act.put, List.setIfInBounds_toArray, List.set_cons_zero, List.set_cons_succ]); repeat (first | (refine Ord.wpT_skip ?_ ?_; (focus (go_simp; (try (intro h; cases h)); done)); simp only [Act.put, List.setIfInBounds_toArray, List.set_cons_zero, List.set_cons_succ]) | (refine Ord.wpT_take (v := ?_) ?_ ?_ ?_; rotate_left; (focus (go_simp; done)); (focus (intro w' hSw; (try dsimp only at hSw); go_simp; (try with_reducible rfl); done)); simp only [Act.put, List.setIfInBounds_toArray, List.set_cons_zero, List.set_cons_succ])))
          (refine Ord.wpT_call ?_ (fun K hK => ?_); (focus (go_simp; done)); go_simp)
          have hB6 := below_go (below_one w7 (.cells e.cs.toArray 87)) hB7
          (refine hK _ _ (by exact Hsb.out _ (below_go hB6 hBX)) ?_; clear hK K; (try simp only [Act.put, List.setIfInBounds_toArray, List.set_cons_zero, List.set_cons_succ]); repeat (first | (refine Ord.wpT_skip ?_ ?_; (focus (go_simp; (try (intro h; cases h)); done)); simp only [Act.put, List.setIfInBounds_toArray, List.set_cons_zero, List.set_cons_succ]) | (refine Ord.wpT_take (v := ?_) ?_ ?_ ?_; rotate_left; (focus (go_simp; done)); (focus (intro w' hSw; (try dsimp only at hSw); go_simp; (try with_reducible rfl); done)); simp only [Act.put, List.setIfInBounds_toArray, List.set_cons_zero, List.set_cons_succ])))
          have HO7 := Lib.hid (own_alloc HO6.out (.cells e.cs.toArray 87))
          have HY7 := Lib.hid (Rd.lit w7 3 1 e.cs 87 rfl (by simp [maxLen]))
          clear HO6 hB7
          have hB7 := hB6
          refine Ord.wpT_app_row elRef ?_ (.tmp 30) (.tmp 32) rfl WX.heap.size v7 _ k 1 (ls tk) e.cs rfl rfl H1.out HO7.out HY7.out hB7.size (by omega) (fun v8 w8 ho8 hg8 hat8 => ?_)
          · go_simp
          have hB8 := hB7.grown hg8 hB7.size (own_base HO7.out)
          refine ⟨Hsb.out _ (below_go hB8 hBX), ?_⟩
          have HO8 := Lib.hid ho8
          clear ho8 hg8 hat8 HO7 HY7
          ((try simp only [Act.put, List.setIfInBounds_toArray, List.set_cons_zero, List.set_cons_succ]); repeat (first | (refine Ord.wpT_skip ?_ ?_; (focus (go_simp; (try (intro h; cases h)); done)); simp only [Act.put, List.setIfInBounds_toArray, List.set_cons_zero, List.set_cons_succ]) | (refine Ord.wpT_take (v := ?_) ?_ ?_ ?_; rotate_left; (focus (go_simp; done)); (focus (intro w' hSw; (try dsimp only at hSw); go_simp; (try with_reducible rfl); done)); simp only [Act.put, List.setIfInBounds_toArray, List.set_cons_zero, List.set_cons_succ])))
          refine Ord.wpT_app_row elRef ?_ (.tmp 33) (.tmp 36) rfl WX.heap.size v8 _ (k + 1) (wl.length - k) (ls tk ++ e.cs) (ls dk) rfl rfl (ls_one _) HO8.out (Hd.out _ (below_go hB8 hBX)) hB8.size (by omega) (fun v9 w9 ho9 hg9 hat9 => ?_)
          · go_simp
          have hB9 := hB8.grown hg9 hB8.size (own_base HO8.out)
          refine ⟨Hsb.out _ (below_go hB9 hBX), ?_⟩
          have HO9 := Lib.hid ho9
          clear ho9 hg9 hat9 HO8
          ((try simp only [Act.put, List.setIfInBounds_toArray, List.set_cons_zero, List.set_cons_succ]); repeat (first | (refine Ord.wpT_skip ?_ ?_; (focus (go_simp; (try (intro h; cases h)); done)); simp only [Act.put, List.setIfInBounds_toArray, List.set_cons_zero, List.set_cons_succ]) | (refine Ord.wpT_take (v := ?_) ?_ ?_ ?_; rotate_left; (focus (go_simp; done)); (focus (intro w' hSw; (try dsimp only at hSw); go_simp; (try with_reducible rfl); done)); simp only [Act.put, List.setIfInBounds_toArray, List.set_cons_zero, List.set_cons_succ])))
          refine Ord.wpT_nil ?_
          go_wp2_with fail
          all_goals
            go_ret
            refine ⟨k, hkl, Hlo.out, HEnd.out, v9, rfl, ?_, below_go (below_go hB9 hBX) hB2⟩
            have h := Rd.of_own HO9.out
            rw [Hls.out, show k + 1 + (wl.length - k) = min k wl.length + (wl.length - k + 1) by omega] at h
            rw [← Htk.out, ← Hdk.out]
            exact h
        · (refine Ord.wpT_call ?_ (fun K hK => ?_); (focus (go_simp; done)); go_simp)
          have hBB : Below WX.heap.size WX (((WX.alloc (.cells #[] 87)).alloc (.cells e.cs.toArray 87)).drew) := (below_two _ _ _).drew
          (refine hK _ _ (by exact Hsb.out _ (below_go hBB hBX)) ?_; clear hK K; (try simp only [Act.put, List.setIfInBounds_toArray, List.set_cons_zero, List.set_cons_succ]); repeat (first | (refine Ord.wpT_skip ?_ ?_; (focus (go_simp; (try (intro h; cases h)); done)); simp only [Act.put, List.setIfInBounds_toArray, List.set_cons_zero, List.set_cons_succ]) | (refine Ord.wpT_take (v := ?_) ?_ ?_ ?_; rotate_left; (focus (go_simp; done)); (focus (intro w' hSw; (try dsimp only at hSw); go_simp; (try with_reducible rfl); done)); simp only [Act.put, List.setIfInBounds_toArray, List.set_cons_zero, List.set_cons_succ])))
          have HOB := Lib.hid (own_below (own_empty WX WX.heap.size 87 3 (Nat.le_refl _)) (show Below (WX.alloc (.cells #[] 87)).heap.size (WX.alloc (.cells #[] 87)) (((WX.alloc (.cells #[] 87)).alloc (.cells e.cs.toArray 87)).drew) from (below_one _ _).drew))
          have HYB := Lib.hid (show Rd (((WX.alloc (.cells #[] 87)).alloc (.cells e.cs.toArray 87)).drew) 3 (.slice (some ⟨WX.heap.size + 1, 0, none⟩) 1 1) 1 e.cs from rd_blk (alloc_at WX (.cells #[] 87) (.cells e.cs.toArray 87)) rfl (by simp [maxLen]))
          clear hB4 HO4
          have hB4 := hBB
          have HO4 := HOB
          refine Ord.wpT_app_row elRef ?_ (.tmp 26) (.tmp 29) rfl WX.heap.size (.slice (some ⟨WX.heap.size, 0, none⟩) 0 0) _ 0 k [] (ls tk) rfl rfl (ls_one _) HO4.out (Ht.out _ (below_go hB4 hBX)) hB4.size (by omega) (fun v7 w7 ho7 hg7 hat7 => ?_)
          · go_simp
          rw [Nat.zero_add, List.nil_append] at ho7
          have hB7 := hB4.grown hg7 hB4.size (own_base HO4.out)
          refine ⟨Hsb.out _ (below_go hB7 hBX), ?_⟩
          have HO7 := Lib.hid ho7
          have HY7 := Lib.hid (HYB.out.grown hg7 (fun q hq h => by have h1 : some WX.heap.size = some q := hq; have h2 : some (WX.heap.size + 1) = some q := h; injection h1 with h1; injection h2 with h2; omega))
          clear ho7 hg7 hat7
          ((try simp only [Act.put, List.setIfInBounds_toArray, List.set_cons_zero, List.set_cons_succ]); repeat (first | (refine Ord.wpT_skip ?_ ?_; (focus (go_simp; (try (intro h; cases h)); done)); simp only [Act.put, List.setIfInBounds_toArray, List.set_cons_zero, List.set_cons_succ]) | (refine Ord.wpT_take (v := ?_) ?_ ?_ ?_; rotate_left; (focus (go_simp; done)); (focus (intro w' hSw; (try dsimp only at hSw); go_simp; (try with_reducible rfl); done)); simp only [Act.put, List.setIfInBounds_toArray, List.set_cons_zero, List.set_cons_succ])))
          refine Ord.wpT_app_row elRef ?_ (.tmp 30) (.tmp 32) rfl WX.heap.size v7 _ k 1 (ls tk) e.cs rfl rfl H1.out HO7.out HY7.out hB7.size (by omega) (fun v8 w8 ho8 hg8 hat8 => ?_)
          · go_simp
          have hB8 := hB7.grown hg8 hB7.size (own_base HO7.out)
          refine ⟨Hsb.out _ (below_go hB8 hBX), ?_⟩
          have HO8 := Lib.hid ho8
          clear ho8 hg8 hat8 HO7 HY7
          ((try simp only [Act.put, List.setIfInBounds_toArray, List.set_cons_zero, List.set_cons_succ]); repeat (first | (refine Ord.wpT_skip ?_ ?_; (focus (go_simp; (try (intro h; cases h)); done)); simp only [Act.put, List.setIfInBounds_toArray, List.set_cons_zero, List.set_cons_succ]) | (refine Ord.wpT_take (v := ?_) ?_ ?_ ?_; rotate_left; (focus (go_simp; done)); (focus (intro w' hSw; (try dsimp only at hSw); go_simp; (try with_reducible rfl); done)); simp only [Act.put, List.setIfInBounds_toArray, List.set_cons_zero, List.set_cons_succ])))
          refine Ord.wpT_app_row elRef ?_ (.tmp 33) (.tmp 36) rfl WX.heap.size v8 _ (k + 1) (wl.length - k) (ls tk ++ e.cs) (ls dk) rfl rfl (ls_one _) HO8.out (Hd.out _ (below_go hB8 hBX)) hB8.size (by omega) (fun v9 w9 ho9 hg9 hat9 => ?_)
          · go_simp
          have hB9 := hB8.grown hg9 hB8.size (own_base HO8.out)
          refine ⟨Hsb.out _ (below_go hB9 hBX), ?_⟩
          have HO9 := Lib.hid ho9
          clear ho9 hg9 hat9 HO8
          ((try simp only [Act.put, List.setIfInBounds_toArray, List.set_cons_zero, List.set_cons_succ]); repeat (first | (refine Ord.wpT_skip ?_ ?_; (focus (go_simp; (try (intro h; cases h)); done)); simp only [Act.put, List.setIfInBounds_toArray, List.set_cons_zero, List.set_cons_succ]) | (refine Ord.wpT_take (v := ?_) ?_ ?_ ?_; rotate_left; (focus (go_simp; done)); (focus (intro w' hSw; (try dsimp only at hSw); go_simp; (try with_reducible rfl); done)); simp only [Act.put, List.setIfInBounds_toArray, List.set_cons_zero, List.set_cons_succ])))
          refine Ord.wpT_nil ?_
          go_wp2_with fail
          all_goals
            go_ret
            refine ⟨k, hkl, Hlo.out, HEnd.out, v9, rfl, ?_, below_go (below_go hB9 hBX) hB2⟩
            have h := Rd.of_own HO9.out
            rw [Hls.out, show k + 1 + (wl.length - k) = min k wl.length + (wl.length - k + 1) by omega] at h
            rw [← Htk.out, ← Hdk.out]
            exact h
      · (refine Ord.wpT_call ?_ (fun K hK => ?_); (focus (go_simp; done)); go_simp)
        have hB3 : Below WX.heap.size WX (WX.alloc (.cells e.cs.toArray 87)).drew := (below_one _ _).drew
        (refine hK _ _ (by exact Hsb.out _ (below_go hB3 hBX)) ?_; clear hK K; (try simp only [Act.put, List.setIfInBounds_toArray, List.set_cons_zero, List.set_cons_succ]); repeat (first | (refine Ord.wpT_skip ?_ ?_; (focus (go_simp; (try (intro h; cases h)); done)); simp only [Act.put, List.setIfInBounds_toArray, List.set_cons_zero, List.set_cons_succ]) | (refine Ord.wpT_take (v := ?_) ?_ ?_ ?_; rotate_left; (focus (go_simp; done)); (focus (intro w' hSw; (try dsimp only at hSw); go_simp; (try with_reducible rfl); done)); simp only [Act.put, List.setIfInBounds_toArray, List.set_cons_zero, List.set_cons_succ])))
        (refine Ord.wpT_call ?_ (fun K hK => ?_); (focus (go_simp; done)); go_simp)
        have hB4 : Below WX.heap.size WX (((WX.alloc (.cells e.cs.toArray 87)).alloc (.cells #[] 87)).drew) := (below_two _ _ _).drew
        (refine hK _ _ (by exact Hsb.out _ (below_go hB4 hBX)) ?_; clear hK K; (try simp only [Act.put, List.setIfInBounds_toArray, List.set_cons_zero, List.set_cons_succ]); repeat (first | (refine Ord.wpT_skip ?_ ?_; (focus (go_simp; (try (intro h; cases h)); done)); simp only [Act.put, List.setIfInBounds_toArray, List.set_cons_zero, List.set_cons_succ]) | (refine Ord.wpT_take (v := ?_) ?_ ?_ ?_; rotate_left; (focus (go_simp; done)); (focus (intro w' hSw; (try dsimp only at hSw); go_simp; (try with_reducible rfl); done)); simp only [Act.put, List.setIfInBounds_toArray, List.set_cons_zero, List.set_cons_succ])))
        have HO4 := Lib.hid (show (((WX.alloc (.cells e.cs.toArray 87)).alloc (.cells #[] 87)).drew).ownsRow WX.heap.size 87 3 (.slice (some ⟨WX.heap.size + 1, 0, none⟩) 0 0) 0 [] by
          have h := own_empty (WX.alloc (.cells e.cs.toArray 87)) WX.heap.size 87 3 (by rw [alloc_size]; omega)
          have h2 := own_below h (Below.refl _ _).drew
          rw [alloc_size] at h2
          exact h2)
        have HYB := Lib.hid (show Rd (((WX.alloc (.cells e.cs.toArray 87)).alloc (.cells #[] 87)).drew) 3 (.slice (some ⟨WX.heap.size, 0, none⟩) 1 1) 1 e.cs from rd_blk (blk_alloc (heap_alloc_new WX _) _) rfl (by simp [maxLen]))
        refine Ord.wpT_app_row elRef ?_ (.tmp 26) (.tmp 29) rfl WX.heap.size (.slice (some ⟨WX.heap.size + 1, 0, none⟩) 0 0) _ 0 k [] (ls tk) rfl rfl (ls_one _) HO4.out (Ht.out _ (below_go hB4 hBX)) hB4.size (by omega) (fun v7 w7 ho7 hg7 hat7 => ?_)
        · go_simp
        rw [Nat.zero_add, List.nil_append] at ho7
        have hB7 := hB4.grown hg7 hB4.size (own_base HO4.out)
        refine ⟨Hsb.out _ (below_go hB7 hBX), ?_⟩
        have HO7 := Lib.hid ho7
        have HY7 := Lib.hid (HYB.out.grown hg7 (fun q hq h => by have h1 : some (WX.heap.size + 1) = some q := hq; have h2 : some (WX.heap.size) = some q := h; injection h1 with h1; injection h2 with h2; omega))
        clear ho7 hg7 hat7
        ((try simp only [Act.put, List.setIfInBounds_toArray, List.set_cons_zero, List.set_cons_succ]); repeat (first | (refine Ord.wpT_skip ?_ ?_; (focus (go_simp; (try (intro h; cases h)); done)); simp only [Act.put, List.setIfInBounds_toArray, List.set_cons_zero, List.set_cons_succ]) | (refine Ord.wpT_take (v := ?_) ?_ ?_ ?_; rotate_left; (focus (go_simp; done)); (focus (intro w' hSw; (try dsimp only at hSw); go_simp; (try with_reducible rfl); done)); simp only [Act.put, List.setIfInBounds_toArray, List.set_cons_zero, List.set_cons_succ])))
        refine Ord.wpT_app_row elRef ?_ (.tmp 30) (.tmp 32) rfl WX.heap.size v7 _ k 1 (ls tk) e.cs rfl rfl H1.out HO7.out HY7.out hB7.size (by omega) (fun v8 w8 ho8 hg8 hat8 => ?_)
        · go_simp
        have hB8 := hB7.grown hg8 hB7.size (own_base HO7.out)
        refine ⟨Hsb.out _ (below_go hB8 hBX), ?_⟩
        have HO8 := Lib.hid ho8
        clear ho8 hg8 hat8 HO7 HY7
        ((try simp only [Act.put, List.setIfInBounds_toArray, List.set_cons_zero, List.set_cons_succ]); repeat (first | (refine Ord.wpT_skip ?_ ?_; (focus (go_simp; (try (intro h; cases h)); done)); simp only [Act.put, List.setIfInBounds_toArray, List.set_cons_zero, List.set_cons_succ]) | (refine Ord.wpT_take (v := ?_) ?_ ?_ ?_; rotate_left; (focus (go_simp; done)); (focus (intro w' hSw; (try dsimp only at hSw); go_simp; (try with_reducible rfl); done)); simp only [Act.put, List.setIfInBounds_toArray, List.set_cons_zero, List.set_cons_succ])))
        refine Ord.wpT_app_row elRef ?_ (.tmp 33) (.tmp 36) rfl WX.heap.size v8 _ (k + 1) (wl.length - k) (ls tk ++ e.cs) (ls dk) rfl rfl (ls_one _) HO8.out (Hd.out _ (below_go hB8 hBX)) hB8.size (by omega) (fun v9 w9 ho9 hg9 hat9 => ?_)
        · go_simp
        have hB9 := hB8.grown hg9 hB8.size (own_base HO8.out)
        refine ⟨Hsb.out _ (below_go hB9 hBX), ?_⟩
        have HO9 := Lib.hid ho9
        clear ho9 hg9 hat9 HO8
        ((try simp only [Act.put, List.setIfInBounds_toArray, List.set_cons_zero, List.set_cons_succ]); repeat (first | (refine Ord.wpT_skip ?_ ?_; (focus (go_simp; (try (intro h; cases h)); done)); simp only [Act.put, List.setIfInBounds_toArray, List.set_cons_zero, List.set_cons_succ]) | (refine Ord.wpT_take (v := ?_) ?_ ?_ ?_; rotate_left; (focus (go_simp; done)); (focus (intro w' hSw; (try dsimp only at hSw); go_simp; (try with_reducible rfl); done)); simp only [Act.put, List.setIfInBounds_toArray, List.set_cons_zero, List.set_cons_succ])))
        refine Ord.wpT_nil ?_
        go_wp2_with fail
        all_goals
          go_ret
          refine ⟨k, hkl, Hlo.out, HEnd.out, v9, rfl, ?_, below_go (below_go hB9 hBX) hB2⟩
          have h := Rd.of_own HO9.out
          rw [Hls.out, show k + 1 + (wl.length - k) = min k wl.length + (wl.length - k + 1) by omega] at h
          rw [← Htk.out, ← Hdk.out]
          exact h
    have hd1 : decide ((k : Int) < (wl.length : Int)) = true := decide_eq_true (by omega)
    have hj2 : (k : Int) < (wl.length : Int) := by omega
    obtain ⟨b, off, rfl, hcell⟩ := ents_at (Hr2.out.below hB) rfl (by omega)
    obtain ⟨d0, -, -⟩ := hcell k hkn
    have hlk := Hwk.out k hkn
    have Hky := Lib.hid (show ky wl k = (wl.getD k L.zero).key from rfl)
    have hle := fun W => Less_any (ky wl k) e.key W hlk (by unfold maxLen; omega)
    rw [← Hky.out] at d0
    have Hst := Lib.hid (fun (h : Op.bytesLess (ky wl k) e.key = true) j (hj : j < k + 1) => show Op.bytesLess (ky wl j) e.key = true by
      rcases Nat.lt_or_ge j k with h1 | h1
      · exact Hlo.out j h1
      · obtain rfl : j = k := by omega
        exact h)
    have Hcw := Lib.hid (fun W (h : Below wr.heap.size wr W) => (show (W.cell? ⟨g0, 0, none⟩ = some (.string (str e.key)) ∧ W.cell? ⟨g0, 1, none⟩ = some (.int .i64 e.first) ∧ W.cell? ⟨g0, 2, none⟩ = some (.int .i64 e.len)) ∧ W.cell? ⟨b, off + k * 3, none⟩ = some (.string (str (ky wl k))) from ⟨⟨cell_below h c0, cell_below h c1, cell_below h c2⟩, cell_below h d0⟩))
    have Hlt := Lib.hid (show Op.bytesLess (ky wl k) e.key = Op.bytesLess (ky wl k) e.key from rfl)
    clear hcell hlk c0 c1 c2 d0
    cases hlt : Op.bytesLess (ky wl k) e.key with
    | true =>
      rw [hlt] at hle
      have Hle := Lib.hid hle
      have Hs2 := Lib.hid (Hst.out hlt)
      clear hle hlt
      generalize ky wl k = kk at Hcw Hle
      go_upto_region 3 with fail
      (refine Ord.wp_region_ord [(false, 0), (false, 1), (false, 2), (false, 3), (false, 4), (false, 5), (false, 6), (false, 7), (false, 8), (false, 9), (false, 10), (false, 11), (true, 12), (false, 13)] (fun W => (W.cell? ⟨g0, 0, none⟩ = some (.string (str e.key)) ∧ W.cell? ⟨g0, 1, none⟩ = some (.int .i64 e.first) ∧ W.cell? ⟨g0, 2, none⟩ = some (.int .i64 e.len)) ∧ W.cell? ⟨b, off + k * 3, none⟩ = some (.string (str kk))) (by kernel_rfl) (by kernel_rfl) (by kernel_rfl) (by kernel_rfl) (by exact Hcw.out _ (Below.refl _ _).drew) ?_; simp only [Ord.ordOps, List.filterMap_cons, List.filterMap_nil, List.getElem?_toArray, List.getElem?_cons_succ, List.getElem?_cons_zero, Option.map_some]; repeat (first | (refine Ord.wpOrd_skip ?_ ?_; (focus (go_simp; (try (intro h; cases h)); done)); simp only [Act.put, List.setIfInBounds_toArray, List.set_cons_zero, List.set_cons_succ]) | (refine Ord.wpOrd_take (v := ?_) ?_ ?_ ?_; rotate_left; (focus (go_simp; done)); (focus (intro w' hSw; (try dsimp only at hSw); go_simp; (try with_reducible rfl); done)); simp only [Act.put, List.setIfInBounds_toArray, List.set_cons_zero, List.set_cons_succ])))
      (refine Ord.wpOrd_call ?_ (fun K hK => ?_); (focus (go_simp; done)); go_simp)
      go_at_call 56
      refine (Hle.out _).mono ?_
      rintro r w5 ⟨rfl, hb5⟩
      have hb5' := below_go hb5 (Below.refl _ _).drew
      have hB5 := below_go hb5' hB
      (refine hK _ _ (by exact Hcw.out _ hb5') ?_; clear hK K; (try simp only [Act.put, List.setIfInBounds_toArray, List.set_cons_zero, List.set_cons_succ]); repeat (first | (refine Ord.wpOrd_skip ?_ ?_; (focus (go_simp; (try (intro h; cases h)); done)); simp only [Act.put, List.setIfInBounds_toArray, List.set_cons_zero, List.set_cons_succ]) | (refine Ord.wpOrd_take (v := ?_) ?_ ?_ ?_; rotate_left; (focus (go_simp; done)); (focus (intro w' hSw; (try dsimp only at hSw); go_simp; (try with_reducible rfl); done)); simp only [Act.put, List.setIfInBounds_toArray, List.set_cons_zero, List.set_cons_succ])))
      refine Ord.wpOrd_nil ?_
      go_wp2_with fail
      exact ⟨⟨k + 1, by omega, by go_num, Hs2, hB5⟩, by simp only [intOf]; omega⟩
    | false =>
      rw [hlt] at hle
      have Hle := Lib.hid hle
      have Hend := Lib.hid (show k = wl.length ∨ Op.bytesLess (ky wl k) e.key = false from .inr hlt)
      have hck : ¬ c2' = k := by omega
      clear hle hlt
      generalize ky wl k = kk at Hcw Hle
      go_upto_region 3 with fail
      (refine Ord.wp_region_ord [(false, 0), (false, 1), (false, 2), (false, 3), (false, 4), (false, 5), (false, 6), (false, 7), (false, 8), (false, 9), (false, 10), (false, 11), (true, 12), (false, 13)] (fun W => (W.cell? ⟨g0, 0, none⟩ = some (.string (str e.key)) ∧ W.cell? ⟨g0, 1, none⟩ = some (.int .i64 e.first) ∧ W.cell? ⟨g0, 2, none⟩ = some (.int .i64 e.len)) ∧ W.cell? ⟨b, off + k * 3, none⟩ = some (.string (str kk))) (by kernel_rfl) (by kernel_rfl) (by kernel_rfl) (by kernel_rfl) (by exact Hcw.out _ (Below.refl _ _).drew) ?_; simp only [Ord.ordOps, List.filterMap_cons, List.filterMap_nil, List.getElem?_toArray, List.getElem?_cons_succ, List.getElem?_cons_zero, Option.map_some]; repeat (first | (refine Ord.wpOrd_skip ?_ ?_; (focus (go_simp; (try (intro h; cases h)); done)); simp only [Act.put, List.setIfInBounds_toArray, List.set_cons_zero, List.set_cons_succ]) | (refine Ord.wpOrd_take (v := ?_) ?_ ?_ ?_; rotate_left; (focus (go_simp; done)); (focus (intro w' hSw; (try dsimp only at hSw); go_simp; (try with_reducible rfl); done)); simp only [Act.put, List.setIfInBounds_toArray, List.set_cons_zero, List.set_cons_succ])))
      (refine Ord.wpOrd_call ?_ (fun K hK => ?_); (focus (go_simp; done)); go_simp)
      go_at_call 56
      refine (Hle.out _).mono ?_
      rintro r w5 ⟨rfl, hb5⟩
      have hb5' := below_go hb5 (Below.refl _ _).drew
      have hB5 := below_go hb5' hB
      (refine hK _ _ (by exact Hcw.out _ hb5') ?_; clear hK K; (try simp only [Act.put, List.setIfInBounds_toArray, List.set_cons_zero, List.set_cons_succ]); repeat (first | (refine Ord.wpOrd_skip ?_ ?_; (focus (go_simp; (try (intro h; cases h)); done)); simp only [Act.put, List.setIfInBounds_toArray, List.set_cons_zero, List.set_cons_succ]) | (refine Ord.wpOrd_take (v := ?_) ?_ ?_ ?_; rotate_left; (focus (go_simp; done)); (focus (intro w' hSw; (try dsimp only at hSw); go_simp; (try with_reducible rfl); done)); simp only [Act.put, List.setIfInBounds_toArray, List.set_cons_zero, List.set_cons_succ])))
      refine Ord.wpOrd_nil ?_
      go_upto_region 5 with fail
      have Hsb := Lib.hid (fun W (h : Below w2.heap.size w2 W) => (show (W.cell? ⟨g0, 0, none⟩ = some (.string (str e.key)) ∧ W.cell? ⟨g0, 1, none⟩ = some (.int .i64 e.first) ∧ W.cell? ⟨g0, 2, none⟩ = some (.int .i64 e.len)) from env_cells (blk_below Hb2.out h)))
      have Ht := Lib.hid (fun W (h : Below w2.heap.size w2 W) => Rd_take3 (Hr2.out.below h) rfl k hkl)
      have Hd := Lib.hid (fun W (h : Below w2.heap.size w2 W) => Rd_drop3 (A' := some ⟨b, off + k * 3, none⟩) (Hr2.out.below h) rfl k hkl (fun _ b' o' h => by injection h with h; injection h with h1 h2; rw [← h1, ← h2]))
      have H1 := Lib.hid (show ∀ u ∈ e.cs, u.oneCell' = true by intro u hu; simp [L.cs] at hu; rcases hu with rfl | rfl | rfl <;> rfl)
      obtain ⟨WX, hWX⟩ : ∃ W, W = w5 := ⟨_, rfl⟩
      have hBX := hB5
      have hEnd := Hend.out
      rw [← hWX] at hBX
      rw [← hWX]
      have HWX := Lib.hid hWX
      have HEnd := Lib.hid hEnd
      have hls : ls (wl.take k) ++ e.cs ++ ls (wl.drop k) = ls (wl.take k ++ e :: wl.drop k) := by simp [ls]
      have Hls := Lib.hid hls
      have htl : (wl.take k).length = k := by rw [List.length_take]; omega
      have hdl : (wl.drop k).length = wl.length - k := List.length_drop
      clear hWX hEnd hls
      obtain ⟨tk, htk⟩ : ∃ x, x = wl.take k := ⟨_, rfl⟩
      obtain ⟨dk, hdk⟩ : ∃ x, x = wl.drop k := ⟨_, rfl⟩
      rw [← htk] at Ht Hls htl
      rw [← hdk] at Hd Hls hdl
      rw [htl] at Ht
      rw [hdl] at Hd
      have Htk := Lib.hid htk
      have Hdk := Lib.hid hdk
      clear htk hdk
      (refine Ord.wp_region_tree (Ord.OT.of [(false, 1), (false, 2), (false, 3), (false, 5), (false, 8), (false, 9), (false, 10)] (Ord.OT.two 0 (Ord.OT.of [] (Ord.OT.two 4 (Ord.OT.of [(true, 6), (true, 7), (true, 11), (false, 12)] Ord.OT.nil) 6 (Ord.OT.of [(true, 4), (true, 7), (true, 11), (false, 12)] Ord.OT.nil))) 6 (Ord.OT.of [(true, 0), (true, 4), (true, 7), (true, 11), (false, 12)] Ord.OT.nil))) (fun W => (W.cell? ⟨g0, 0, none⟩ = some (.string (str e.key)) ∧ W.cell? ⟨g0, 1, none⟩ = some (.int .i64 e.first) ∧ W.cell? ⟨g0, 2, none⟩ = some (.int .i64 e.len))) (by kernel_rfl) (by kernel_rfl) (by kernel_rfl) (by kernel_rfl) (by exact Hsb.out _ hBX.drew) ?_; simp only [Ord.OT.of, Ord.OT.opers, List.getElem?_toArray, List.getElem?_cons_succ, List.getElem?_cons_zero]; repeat (first | (refine Ord.wpT_skip ?_ ?_; (focus (go_simp; (try (intro h; cases h)); done)); simp only [Act.put, List.setIfInBounds_toArray, List.set_cons_zero, List.set_cons_succ]) | (refine Ord.wpT_take (v := ?_) ?_ ?_ ?_; rotate_left; (focus (go_simp; done)); (focus (intro w' hSw; (try dsimp only at hSw); go_simp; (try with_reducible rfl); done)); simp only [Act.put, List.setIfInBounds_toArray, List.set_cons_zero, List.set_cons_succ])))
      refine Ord.wpT_two ?_ ?_
      · (refine Ord.wpT_call ?_ (fun K hK => ?_); (focus (go_simp; done)); go_simp)
        have hB4 : Below WX.heap.size WX (WX.alloc (.cells #[] 87)).drew := (below_one _ _).drew
        (refine hK _ _ (by exact Hsb.out _ (below_go hB4 hBX)) ?_; clear hK K; (try simp only [Act.put, List.setIfInBounds_toArray, List.set_cons_zero, List.set_cons_succ]); repeat (first | (refine Ord.wpT_skip ?_ ?_; (focus (go_simp; (try (intro h; cases h)); done)); simp only [Act.put, List.setIfInBounds_toArray, List.set_cons_zero, List.set_cons_succ]) | (refine Ord.wpT_take (v := ?_) ?_ ?_ ?_; rotate_left; (focus (go_simp; done)); (focus (intro w' hSw; (try dsimp only at hSw); go_simp; (try with_reducible rfl); done)); simp only [Act.put, List.setIfInBounds_toArray, List.set_cons_zero, List.set_cons_succ])))
        have HO4 := Lib.hid (own_below (own_empty WX WX.heap.size 87 3 (Nat.le_refl _)) (show Below (WX.alloc (.cells #[] 87)).heap.size (WX.alloc (.cells #[] 87)) (WX.alloc (.cells #[] 87)).drew from (Below.refl _ _).drew))
        refine Ord.wpT_two ?_ ?_
        · refine Ord.wpT_app_row elRef ?_ (.tmp 26) (.tmp 29) rfl WX.heap.size (.slice (some ⟨WX.heap.size, 0, none⟩) 0 0) _ 0 k [] (ls tk) rfl rfl (ls_one _) HO4.out (Ht.out _ (below_go hB4 hBX)) hB4.size (by omega) (fun v7 w7 ho7 hg7 hat7 => ?_)
          · go_simp
          rw [Nat.zero_add, List.nil_append] at ho7
          have hB7 := hB4.grown hg7 hB4.size (own_base HO4.out)
          refine ⟨Hsb.out _ (below_go hB7 hBX), ?_⟩
          have HO6 := Lib.hid ho7
          clear ho7 hg7 hat7
          ((try simp only [Act.put, List.setIfInBounds_toArray, List.set_cons_zero, List.set_cons_succ]); repeat (first | (refine Ord.wpT_skip ?_ ?_; (focus (go_simp; (try (intro h; cases h)); done)); simp only [Act.put, List.setIfInBounds_toArray, List.set_cons_zero, List.set_cons_succ]) | (refine Ord.wpT_take (v := ?_) ?_ ?_ ?_; rotate_left; (focus (go_simp; done)); (focus (intro w' hSw; (try dsimp only at hSw); go_simp; (try with_reducible rfl); done)); simp only [Act.put, List.setIfInBounds_toArray, List.set_cons_zero, List.set_cons_succ])))
          (refine Ord.wpT_call ?_ (fun K hK => ?_); (focus (go_simp; done)); go_simp)
          have hB6 := below_go (below_one w7 (.cells e.cs.toArray 87)) hB7
          (refine hK _ _ (by exact Hsb.out _ (below_go hB6 hBX)) ?_; clear hK K; (try simp only [Act.put, List.setIfInBounds_toArray, List.set_cons_zero, List.set_cons_succ]); repeat (first | (refine Ord.wpT_skip ?_ ?_; (focus (go_simp; (try (intro h; cases h)); done)); simp only [Act.put, List.setIfInBounds_toArray, List.set_cons_zero, List.set_cons_succ]) | (refine Ord.wpT_take (v := ?_) ?_ ?_ ?_; rotate_left; (focus (go_simp; done)); (focus (intro w' hSw; (try dsimp only at hSw); go_simp; (try with_reducible rfl); done)); simp only [Act.put, List.setIfInBounds_toArray, List.set_cons_zero, List.set_cons_succ])))
          have HO7 := Lib.hid (own_alloc HO6.out (.cells e.cs.toArray 87))
          have HY7 := Lib.hid (Rd.lit w7 3 1 e.cs 87 rfl (by simp [maxLen]))
          clear HO6 hB7
          have hB7 := hB6
          refine Ord.wpT_app_row elRef ?_ (.tmp 30) (.tmp 32) rfl WX.heap.size v7 _ k 1 (ls tk) e.cs rfl rfl H1.out HO7.out HY7.out hB7.size (by omega) (fun v8 w8 ho8 hg8 hat8 => ?_)
          · go_simp
          have hB8 := hB7.grown hg8 hB7.size (own_base HO7.out)
          refine ⟨Hsb.out _ (below_go hB8 hBX), ?_⟩
          have HO8 := Lib.hid ho8
          clear ho8 hg8 hat8 HO7 HY7
          ((try simp only [Act.put, List.setIfInBounds_toArray, List.set_cons_zero, List.set_cons_succ]); repeat (first | (refine Ord.wpT_skip ?_ ?_; (focus (go_simp; (try (intro h; cases h)); done)); simp only [Act.put, List.setIfInBounds_toArray, List.set_cons_zero, List.set_cons_succ]) | (refine Ord.wpT_take (v := ?_) ?_ ?_ ?_; rotate_left; (focus (go_simp; done)); (focus (intro w' hSw; (try dsimp only at hSw); go_simp; (try with_reducible rfl); done)); simp only [Act.put, List.setIfInBounds_toArray, List.set_cons_zero, List.set_cons_succ])))
          refine Ord.wpT_app_row elRef ?_ (.tmp 33) (.tmp 36) rfl WX.heap.size v8 _ (k + 1) (wl.length - k) (ls tk ++ e.cs) (ls dk) rfl rfl (ls_one _) HO8.out (Hd.out _ (below_go hB8 hBX)) hB8.size (by omega) (fun v9 w9 ho9 hg9 hat9 => ?_)
          · go_simp
          have hB9 := hB8.grown hg9 hB8.size (own_base HO8.out)
          refine ⟨Hsb.out _ (below_go hB9 hBX), ?_⟩
          have HO9 := Lib.hid ho9
          clear ho9 hg9 hat9 HO8
          ((try simp only [Act.put, List.setIfInBounds_toArray, List.set_cons_zero, List.set_cons_succ]); repeat (first | (refine Ord.wpT_skip ?_ ?_; (focus (go_simp; (try (intro h; cases h)); done)); simp only [Act.put, List.setIfInBounds_toArray, List.set_cons_zero, List.set_cons_succ]) | (refine Ord.wpT_take (v := ?_) ?_ ?_ ?_; rotate_left; (focus (go_simp; done)); (focus (intro w' hSw; (try dsimp only at hSw); go_simp; (try with_reducible rfl); done)); simp only [Act.put, List.setIfInBounds_toArray, List.set_cons_zero, List.set_cons_succ])))
          refine Ord.wpT_nil ?_
          go_wp2_with fail
          all_goals
            go_ret
            refine ⟨k, hkl, Hlo.out, HEnd.out, v9, rfl, ?_, below_go (below_go hB9 hBX) hB2⟩
            have h := Rd.of_own HO9.out
            rw [Hls.out, show k + 1 + (wl.length - k) = min k wl.length + (wl.length - k + 1) by omega] at h
            rw [← Htk.out, ← Hdk.out]
            exact h
        · (refine Ord.wpT_call ?_ (fun K hK => ?_); (focus (go_simp; done)); go_simp)
          have hBB : Below WX.heap.size WX (((WX.alloc (.cells #[] 87)).alloc (.cells e.cs.toArray 87)).drew) := (below_two _ _ _).drew
          (refine hK _ _ (by exact Hsb.out _ (below_go hBB hBX)) ?_; clear hK K; (try simp only [Act.put, List.setIfInBounds_toArray, List.set_cons_zero, List.set_cons_succ]); repeat (first | (refine Ord.wpT_skip ?_ ?_; (focus (go_simp; (try (intro h; cases h)); done)); simp only [Act.put, List.setIfInBounds_toArray, List.set_cons_zero, List.set_cons_succ]) | (refine Ord.wpT_take (v := ?_) ?_ ?_ ?_; rotate_left; (focus (go_simp; done)); (focus (intro w' hSw; (try dsimp only at hSw); go_simp; (try with_reducible rfl); done)); simp only [Act.put, List.setIfInBounds_toArray, List.set_cons_zero, List.set_cons_succ])))
          have HOB := Lib.hid (own_below (own_empty WX WX.heap.size 87 3 (Nat.le_refl _)) (show Below (WX.alloc (.cells #[] 87)).heap.size (WX.alloc (.cells #[] 87)) (((WX.alloc (.cells #[] 87)).alloc (.cells e.cs.toArray 87)).drew) from (below_one _ _).drew))
          have HYB := Lib.hid (show Rd (((WX.alloc (.cells #[] 87)).alloc (.cells e.cs.toArray 87)).drew) 3 (.slice (some ⟨WX.heap.size + 1, 0, none⟩) 1 1) 1 e.cs from rd_blk (alloc_at WX (.cells #[] 87) (.cells e.cs.toArray 87)) rfl (by simp [maxLen]))
          clear hB4 HO4
          have hB4 := hBB
          have HO4 := HOB
          refine Ord.wpT_app_row elRef ?_ (.tmp 26) (.tmp 29) rfl WX.heap.size (.slice (some ⟨WX.heap.size, 0, none⟩) 0 0) _ 0 k [] (ls tk) rfl rfl (ls_one _) HO4.out (Ht.out _ (below_go hB4 hBX)) hB4.size (by omega) (fun v7 w7 ho7 hg7 hat7 => ?_)
          · go_simp
          rw [Nat.zero_add, List.nil_append] at ho7
          have hB7 := hB4.grown hg7 hB4.size (own_base HO4.out)
          refine ⟨Hsb.out _ (below_go hB7 hBX), ?_⟩
          have HO7 := Lib.hid ho7
          have HY7 := Lib.hid (HYB.out.grown hg7 (fun q hq h => by have h1 : some WX.heap.size = some q := hq; have h2 : some (WX.heap.size + 1) = some q := h; injection h1 with h1; injection h2 with h2; omega))
          clear ho7 hg7 hat7
          ((try simp only [Act.put, List.setIfInBounds_toArray, List.set_cons_zero, List.set_cons_succ]); repeat (first | (refine Ord.wpT_skip ?_ ?_; (focus (go_simp; (try (intro h; cases h)); done)); simp only [Act.put, List.setIfInBounds_toArray, List.set_cons_zero, List.set_cons_succ]) | (refine Ord.wpT_take (v := ?_) ?_ ?_ ?_; rotate_left; (focus (go_simp; done)); (focus (intro w' hSw; (try dsimp only at hSw); go_simp; (try with_reducible rfl); done)); simp only [Act.put, List.setIfInBounds_toArray, List.set_cons_zero, List.set_cons_succ])))
          refine Ord.wpT_app_row elRef ?_ (.tmp 30) (.tmp 32) rfl WX.heap.size v7 _ k 1 (ls tk) e.cs rfl rfl H1.out HO7.out HY7.out hB7.size (by omega) (fun v8 w8 ho8 hg8 hat8 => ?_)
          · go_simp
          have hB8 := hB7.grown hg8 hB7.size (own_base HO7.out)
          refine ⟨Hsb.out _ (below_go hB8 hBX), ?_⟩
          have HO8 := Lib.hid ho8
          clear ho8 hg8 hat8 HO7 HY7
          ((try simp only [Act.put, List.setIfInBounds_toArray, List.set_cons_zero, List.set_cons_succ]); repeat (first | (refine Ord.wpT_skip ?_ ?_; (focus (go_simp; (try (intro h; cases h)); done)); simp only [Act.put, List.setIfInBounds_toArray, List.set_cons_zero, List.set_cons_succ]) | (refine Ord.wpT_take (v := ?_) ?_ ?_ ?_; rotate_left; (focus (go_simp; done)); (focus (intro w' hSw; (try dsimp only at hSw); go_simp; (try with_reducible rfl); done)); simp only [Act.put, List.setIfInBounds_toArray, List.set_cons_zero, List.set_cons_succ])))
          refine Ord.wpT_app_row elRef ?_ (.tmp 33) (.tmp 36) rfl WX.heap.size v8 _ (k + 1) (wl.length - k) (ls tk ++ e.cs) (ls dk) rfl rfl (ls_one _) HO8.out (Hd.out _ (below_go hB8 hBX)) hB8.size (by omega) (fun v9 w9 ho9 hg9 hat9 => ?_)
          · go_simp
          have hB9 := hB8.grown hg9 hB8.size (own_base HO8.out)
          refine ⟨Hsb.out _ (below_go hB9 hBX), ?_⟩
          have HO9 := Lib.hid ho9
          clear ho9 hg9 hat9 HO8
          ((try simp only [Act.put, List.setIfInBounds_toArray, List.set_cons_zero, List.set_cons_succ]); repeat (first | (refine Ord.wpT_skip ?_ ?_; (focus (go_simp; (try (intro h; cases h)); done)); simp only [Act.put, List.setIfInBounds_toArray, List.set_cons_zero, List.set_cons_succ]) | (refine Ord.wpT_take (v := ?_) ?_ ?_ ?_; rotate_left; (focus (go_simp; done)); (focus (intro w' hSw; (try dsimp only at hSw); go_simp; (try with_reducible rfl); done)); simp only [Act.put, List.setIfInBounds_toArray, List.set_cons_zero, List.set_cons_succ])))
          refine Ord.wpT_nil ?_
          go_wp2_with fail
          all_goals
            go_ret
            refine ⟨k, hkl, Hlo.out, HEnd.out, v9, rfl, ?_, below_go (below_go hB9 hBX) hB2⟩
            have h := Rd.of_own HO9.out
            rw [Hls.out, show k + 1 + (wl.length - k) = min k wl.length + (wl.length - k + 1) by omega] at h
            rw [← Htk.out, ← Hdk.out]
            exact h
      · (refine Ord.wpT_call ?_ (fun K hK => ?_); (focus (go_simp; done)); go_simp)
        have hB3 : Below WX.heap.size WX (WX.alloc (.cells e.cs.toArray 87)).drew := (below_one _ _).drew
        (refine hK _ _ (by exact Hsb.out _ (below_go hB3 hBX)) ?_; clear hK K; (try simp only [Act.put, List.setIfInBounds_toArray, List.set_cons_zero, List.set_cons_succ]); repeat (first | (refine Ord.wpT_skip ?_ ?_; (focus (go_simp; (try (intro h; cases h)); done)); simp only [Act.put, List.setIfInBounds_toArray, List.set_cons_zero, List.set_cons_succ]) | (refine Ord.wpT_take (v := ?_) ?_ ?_ ?_; rotate_left; (focus (go_simp; done)); (focus (intro w' hSw; (try dsimp only at hSw); go_simp; (try with_reducible rfl); done)); simp only [Act.put, List.setIfInBounds_toArray, List.set_cons_zero, List.set_cons_succ])))
        (refine Ord.wpT_call ?_ (fun K hK => ?_); (focus (go_simp; done)); go_simp)
        have hB4 : Below WX.heap.size WX (((WX.alloc (.cells e.cs.toArray 87)).alloc (.cells #[] 87)).drew) := (below_two _ _ _).drew
        (refine hK _ _ (by exact Hsb.out _ (below_go hB4 hBX)) ?_; clear hK K; (try simp only [Act.put, List.setIfInBounds_toArray, List.set_cons_zero, List.set_cons_succ]); repeat (first | (refine Ord.wpT_skip ?_ ?_; (focus (go_simp; (try (intro h; cases h)); done)); simp only [Act.put, List.setIfInBounds_toArray, List.set_cons_zero, List.set_cons_succ]) | (refine Ord.wpT_take (v := ?_) ?_ ?_ ?_; rotate_left; (focus (go_simp; done)); (focus (intro w' hSw; (try dsimp only at hSw); go_simp; (try with_reducible rfl); done)); simp only [Act.put, List.setIfInBounds_toArray, List.set_cons_zero, List.set_cons_succ])))
        have HO4 := Lib.hid (show (((WX.alloc (.cells e.cs.toArray 87)).alloc (.cells #[] 87)).drew).ownsRow WX.heap.size 87 3 (.slice (some ⟨WX.heap.size + 1, 0, none⟩) 0 0) 0 [] by
          have h := own_empty (WX.alloc (.cells e.cs.toArray 87)) WX.heap.size 87 3 (by rw [alloc_size]; omega)
          have h2 := own_below h (Below.refl _ _).drew
          rw [alloc_size] at h2
          exact h2)
        have HYB := Lib.hid (show Rd (((WX.alloc (.cells e.cs.toArray 87)).alloc (.cells #[] 87)).drew) 3 (.slice (some ⟨WX.heap.size, 0, none⟩) 1 1) 1 e.cs from rd_blk (blk_alloc (heap_alloc_new WX _) _) rfl (by simp [maxLen]))
        refine Ord.wpT_app_row elRef ?_ (.tmp 26) (.tmp 29) rfl WX.heap.size (.slice (some ⟨WX.heap.size + 1, 0, none⟩) 0 0) _ 0 k [] (ls tk) rfl rfl (ls_one _) HO4.out (Ht.out _ (below_go hB4 hBX)) hB4.size (by omega) (fun v7 w7 ho7 hg7 hat7 => ?_)
        · go_simp
        rw [Nat.zero_add, List.nil_append] at ho7
        have hB7 := hB4.grown hg7 hB4.size (own_base HO4.out)
        refine ⟨Hsb.out _ (below_go hB7 hBX), ?_⟩
        have HO7 := Lib.hid ho7
        have HY7 := Lib.hid (HYB.out.grown hg7 (fun q hq h => by have h1 : some (WX.heap.size + 1) = some q := hq; have h2 : some (WX.heap.size) = some q := h; injection h1 with h1; injection h2 with h2; omega))
        clear ho7 hg7 hat7
        ((try simp only [Act.put, List.setIfInBounds_toArray, List.set_cons_zero, List.set_cons_succ]); repeat (first | (refine Ord.wpT_skip ?_ ?_; (focus (go_simp; (try (intro h; cases h)); done)); simp only [Act.put, List.setIfInBounds_toArray, List.set_cons_zero, List.set_cons_succ]) | (refine Ord.wpT_take (v := ?_) ?_ ?_ ?_; rotate_left; (focus (go_simp; done)); (focus (intro w' hSw; (try dsimp only at hSw); go_simp; (try with_reducible rfl); done)); simp only [Act.put, List.setIfInBounds_toArray, List.set_cons_zero, List.set_cons_succ])))
        refine Ord.wpT_app_row elRef ?_ (.tmp 30) (.tmp 32) rfl WX.heap.size v7 _ k 1 (ls tk) e.cs rfl rfl H1.out HO7.out HY7.out hB7.size (by omega) (fun v8 w8 ho8 hg8 hat8 => ?_)
        · go_simp
        have hB8 := hB7.grown hg8 hB7.size (own_base HO7.out)
        refine ⟨Hsb.out _ (below_go hB8 hBX), ?_⟩
        have HO8 := Lib.hid ho8
        clear ho8 hg8 hat8 HO7 HY7
        ((try simp only [Act.put, List.setIfInBounds_toArray, List.set_cons_zero, List.set_cons_succ]); repeat (first | (refine Ord.wpT_skip ?_ ?_; (focus (go_simp; (try (intro h; cases h)); done)); simp only [Act.put, List.setIfInBounds_toArray, List.set_cons_zero, List.set_cons_succ]) | (refine Ord.wpT_take (v := ?_) ?_ ?_ ?_; rotate_left; (focus (go_simp; done)); (focus (intro w' hSw; (try dsimp only at hSw); go_simp; (try with_reducible rfl); done)); simp only [Act.put, List.setIfInBounds_toArray, List.set_cons_zero, List.set_cons_succ])))
        refine Ord.wpT_app_row elRef ?_ (.tmp 33) (.tmp 36) rfl WX.heap.size v8 _ (k + 1) (wl.length - k) (ls tk ++ e.cs) (ls dk) rfl rfl (ls_one _) HO8.out (Hd.out _ (below_go hB8 hBX)) hB8.size (by omega) (fun v9 w9 ho9 hg9 hat9 => ?_)
        · go_simp
        have hB9 := hB8.grown hg9 hB8.size (own_base HO8.out)
        refine ⟨Hsb.out _ (below_go hB9 hBX), ?_⟩
        have HO9 := Lib.hid ho9
        clear ho9 hg9 hat9 HO8
        ((try simp only [Act.put, List.setIfInBounds_toArray, List.set_cons_zero, List.set_cons_succ]); repeat (first | (refine Ord.wpT_skip ?_ ?_; (focus (go_simp; (try (intro h; cases h)); done)); simp only [Act.put, List.setIfInBounds_toArray, List.set_cons_zero, List.set_cons_succ]) | (refine Ord.wpT_take (v := ?_) ?_ ?_ ?_; rotate_left; (focus (go_simp; done)); (focus (intro w' hSw; (try dsimp only at hSw); go_simp; (try with_reducible rfl); done)); simp only [Act.put, List.setIfInBounds_toArray, List.set_cons_zero, List.set_cons_succ])))
        refine Ord.wpT_nil ?_
        go_wp2_with fail
        all_goals
          go_ret
          refine ⟨k, hkl, Hlo.out, HEnd.out, v9, rfl, ?_, below_go (below_go hB9 hBX) hB2⟩
          have h := Rd.of_own HO9.out
          rw [Hls.out, show k + 1 + (wl.length - k) = min k wl.length + (wl.length - k + 1) by omega] at h
          rw [← Htk.out, ← Hdk.out]
          exact h
end Go.Proofs.Ytcjabfdjngekfaa.Leaf
