/- The reference of ids, walked: Has, Same. -/
import Derived.Test.YtpldkplfdbjidaaRef03W
set_option linter.unusedVariables false
set_option linter.unusedSimpArgs false
namespace Go.Proofs.Ytpldkplfdbjidaa.Ids
open Go.RowKit Go.Proofs.Ytpldkplfdbjidaa.Wd Go.Proofs.Ytpldkplfdbjidaa.Use Go.Proofs.Ytpldkplfdbjidaa.Lay

theorem eqA (w : World) (xs ys : List UInt8) (hx : xs.length = 32) (hy : ys.length = 32) : (Op.equalIn 10000 22 (.agg (bs xs).toArray) (.agg (bs ys).toArray)).run Try.prog w = .ok (xs == ys) w :=
  Go.run_equalIn_bytes w 9998 22 5 32 Try.underlying22 Try.underlying5 Sha.sz8 xs ys hx hy
theorem eqlA (w : World) (xs ys : List UInt8) (hx : xs.length = 32) (hy : ys.length = 32) : (binOp .eql 22 (.agg (bs xs).toArray) (.agg (bs ys).toArray)).run Try.prog w = .ok (.bool (xs == ys)) w := by
  rw [run_eql_struct, eqA w xs ys hx hy]; rfl
theorem neqA (w : World) (xs ys : List UInt8) (hx : xs.length = 32) (hy : ys.length = 32) : (binOp .neq 22 (.agg (bs xs).toArray) (.agg (bs ys).toArray)).run Try.prog w = .ok (.bool (!(xs == ys))) w := by
  rw [run_neq_struct, eqA w xs ys hx hy]; rfl
theorem not_mem_take {l : List Id} {x : Id} {k : Nat} (h : x ∉ l.take k) (hk : k < l.length) (hne : (l.getD k [] == x) = false) : x ∉ l.take (k + 1) := by
  rw [List.take_succ_eq_append_getElem hk]
  intro hm
  rcases List.mem_append.1 hm with hm | hm
  · exact h hm
  · rw [List.mem_singleton] at hm
    rw [List.getD_eq_getElem?_getD, List.getElem?_eq_getElem hk, Option.getD_some, ← hm] at hne
    simp at hne
theorem mem_at {l : List Id} {x : Id} {k : Nat} (hk : k < l.length) (he : (l.getD k [] == x) = true) : x ∈ l := by
  rw [List.getD_eq_getElem?_getD, List.getElem?_eq_getElem hk, Option.getD_some] at he
  rw [← eq_of_beq he]; exact List.getElem_mem hk
set_option maxRecDepth 100000 in
set_option maxHeartbeats 4000000 in
theorem rHas_any (l : List Id) (x : Id) (h32 : W32 l) (hx : x.length = 32) (v : Value) (w : World) (hv : Rd w 32 v l.length (ix l)) :
    Calls Try.prog 169 #[v, .agg (bs x).toArray] w fun e w' => e = .returned (.bool (decide (x ∈ l))) ∧ Below w.heap.size w w' := by
  obtain ⟨A, c, rfl, hc1, hc2, -⟩ := hv.slice_
  unfold maxLen at hc2
  obtain ⟨X, hX⟩ : ∃ X, X = bs x := ⟨_, rfl⟩
  obtain ⟨W0, hW0⟩ : ∃ W, W = w.alloc (.cells X.toArray 22) := ⟨_, rfl⟩
  have Hra := Lib.hid (show ∀ W, Below W0.heap.size W0 W → W.rangeAt w.heap.size 0 X from fun W h => by rw [hW0] at h; exact range_all (t := 22) (blk_below (heap_alloc_new _ _) h))
  have hb0 : Below w.heap.size w W0 := by rw [hW0]; exact below_one _ _
  have Hix := Lib.hid (show (Try.prog.info? 22).map (·.size) = some X.length by rw [hX, bs_length, hx]; rfl)
  have heq := fun W (y : Id) (hy : y.length = 32) => eqlA W y x hy hx
  rw [← hX] at heq ⊢
  have HW0 := Lib.hid hW0
  have Hv := Lib.hid hv
  have H32 := Lib.hid h32
  have Heq := Lib.hid heq
  obtain ⟨n, hn⟩ : ∃ n, n = l.length := ⟨_, rfl⟩
  rw [← hn] at Hv hc1 ⊢
  have Hn := Lib.hid hn
  clear hW0 hX hv h32 heq hn hx
  go_enter Try.func169, Try.ntmps169
  go_upto_region 2 with fail
  rw [← HW0.out]
  go_loopw [5] (fun i_ wr => ∃ k : Nat, k ≤ n ∧ i_ = .int .i64 (k : Int) ∧ Hid (x ∉ l.take k) ∧ Below W0.heap.size W0 wr) (fun i_ _ => n - (intOf i_).toNat)
  case atStart => exact ⟨0, Nat.zero_le _, rfl, Lib.hid (by simp), Below.refl _ _⟩
  case round =>
    obtain ⟨k, hk, rfl, Hno, hB⟩ := hrel
    by_cases hkn : k < n
    rotate_left
    · obtain rfl : k = n := by omega
      have hd1 : decide ((k : Int) < (k : Int)) = false := decide_eq_false (by omega)
      have Hf := Lib.hid (show decide (x ∈ l) = false from decide_eq_false (fun h => Hno.out (by rw [List.take_of_length_le (by rw [← Hn.out]; exact Nat.le_refl _)]; exact h)))
      go_wp2_with fail
      go_ret
      exact ⟨ret_b Hf.out.symm, below_go hB hb0⟩
    have hd1 : decide ((k : Int) < (n : Int)) = true := decide_eq_true (by omega)
    have i0 : (0 : Int) ≤ (k : Int) := by omega
    have i1 : (k : Int) < (n : Int) := by omega
    obtain ⟨b, off, rfl, hr⟩ := ix_at (Hv.out.below (below_go hB hb0)) H32.out Hn.out (by omega)
    have hr1 := hr k hkn
    have hyl := H32.out.get k (by have := Hn.out; omega)
    have hq := fun W => Heq.out W _ hyl
    have Hnm := Lib.hid (fun h => not_mem_take Hno.out (show k < l.length by have := Hn.out; omega) h)
    have Hme := Lib.hid (fun h => mem_at (x := x) (show k < l.length by have := Hn.out; omega) h)
    generalize l.getD k [] = y at hr1 hyl hq Hnm Hme
    generalize (y == x) = q at hq Hnm Hme
    obtain ⟨Y, hY⟩ : ∃ Y, Y = bs y := ⟨_, rfl⟩
    have Hiy := Lib.hid (show (Try.prog.info? 22).map (·.size) = some Y.length by rw [hY, bs_length, hyl]; rfl)
    rw [← hY] at hr1 hq
    have Hq := Lib.hid hq
    have hx1 := Hra.out wr hB
    clear hr hyl hq hY
    cases q
    · go_wp2_with fail
      (refine Ord.wp_region_ord [(false, 0), (false, 1), (false, 2), (false, 3), (false, 4), (false, 5)] (fun W => W.rangeAt b (off + k * 32) Y ∧ W.rangeAt w.heap.size 0 X) (by kernel_rfl) (by kernel_rfl) (by kernel_rfl) (by kernel_rfl) (by exact ⟨hr1, hx1⟩) ?_; simp only [Ord.ordOps, List.filterMap_cons, List.filterMap_nil, List.getElem?_toArray, List.getElem?_cons_succ, List.getElem?_cons_zero, Option.map_some]; repeat (first | (refine Ord.wpOrd_skip ?_ ?_; (focus (go_simp; (try (intro h; cases h)); done)); simp only [Act.put, List.setIfInBounds_toArray, List.set_cons_zero, List.set_cons_succ]) | (refine Ord.wpOrd_take (v := ?_) ?_ ?_ ?_; rotate_left; (focus (go_simp; done)); (focus (intro w' hSw; (try dsimp only at hSw); go_simp; (try with_reducible rfl); done)); simp only [Act.put, List.setIfInBounds_toArray, List.set_cons_zero, List.set_cons_succ])))
      refine Ord.wpOrd_load_mid ?_ 22 _ rfl b (off + k * 32) rfl Y _ (fun w h => h.1) Try.underlying22 rfl Hiy.out ?_
      focus (go_simp; done)
      ((try simp only [Act.put, List.setIfInBounds_toArray, List.set_cons_zero, List.set_cons_succ]); repeat (first | (refine Ord.wpOrd_skip ?_ ?_; (focus (go_simp; (try (intro h; cases h)); done)); simp only [Act.put, List.setIfInBounds_toArray, List.set_cons_zero, List.set_cons_succ]) | (refine Ord.wpOrd_take (v := ?_) ?_ ?_ ?_; rotate_left; (focus (go_simp; done)); (focus (intro w' hSw; (try dsimp only at hSw); go_simp; (try with_reducible rfl); done)); simp only [Act.put, List.setIfInBounds_toArray, List.set_cons_zero, List.set_cons_succ])))
      refine Ord.wpOrd_load_mid ?_ 22 _ rfl w.heap.size 0 rfl X _ (fun w h => h.2) Try.underlying22 rfl Hix.out ?_
      focus (go_simp; done)
      ((try simp only [Act.put, List.setIfInBounds_toArray, List.set_cons_zero, List.set_cons_succ]); repeat (first | (refine Ord.wpOrd_skip ?_ ?_; (focus (go_simp; (try (intro h; cases h)); done)); simp only [Act.put, List.setIfInBounds_toArray, List.set_cons_zero, List.set_cons_succ]) | (refine Ord.wpOrd_take (v := ?_) ?_ ?_ ?_; rotate_left; (focus (go_simp; done)); (focus (intro w' hSw; (try dsimp only at hSw); go_simp; (try with_reducible rfl); done)); simp only [Act.put, List.setIfInBounds_toArray, List.set_cons_zero, List.set_cons_succ])))
      refine Ord.wpOrd_bin ?_ .eql 22 _ _ _ rfl (.agg Y.toArray) (.agg X.toArray) (.bool false) rfl rfl (fun w' => run_eqGuard_agg w' _ _ _ _ _ _ (by kernel_rfl)) Hq.out ?_
      focus (go_simp; done)
      refine Ord.wpOrd_nil ?_
      go_wp2_with fail
      exact ⟨⟨k + 1, by omega, by go_num, Lib.hid (Hnm.out (by trivial)), hB.drew⟩, by simp only [intOf]; omega⟩
    · have Hf := Lib.hid (show decide (x ∈ l) = true from decide_eq_true (Hme.out (by trivial)))
      go_wp2_with fail
      (refine Ord.wp_region_ord [(false, 0), (false, 1), (false, 2), (false, 3), (false, 4), (false, 5)] (fun W => W.rangeAt b (off + k * 32) Y ∧ W.rangeAt w.heap.size 0 X) (by kernel_rfl) (by kernel_rfl) (by kernel_rfl) (by kernel_rfl) (by exact ⟨hr1, hx1⟩) ?_; simp only [Ord.ordOps, List.filterMap_cons, List.filterMap_nil, List.getElem?_toArray, List.getElem?_cons_succ, List.getElem?_cons_zero, Option.map_some]; repeat (first | (refine Ord.wpOrd_skip ?_ ?_; (focus (go_simp; (try (intro h; cases h)); done)); simp only [Act.put, List.setIfInBounds_toArray, List.set_cons_zero, List.set_cons_succ]) | (refine Ord.wpOrd_take (v := ?_) ?_ ?_ ?_; rotate_left; (focus (go_simp; done)); (focus (intro w' hSw; (try dsimp only at hSw); go_simp; (try with_reducible rfl); done)); simp only [Act.put, List.setIfInBounds_toArray, List.set_cons_zero, List.set_cons_succ])))
      refine Ord.wpOrd_load_mid ?_ 22 _ rfl b (off + k * 32) rfl Y _ (fun w h => h.1) Try.underlying22 rfl Hiy.out ?_
      focus (go_simp; done)
      ((try simp only [Act.put, List.setIfInBounds_toArray, List.set_cons_zero, List.set_cons_succ]); repeat (first | (refine Ord.wpOrd_skip ?_ ?_; (focus (go_simp; (try (intro h; cases h)); done)); simp only [Act.put, List.setIfInBounds_toArray, List.set_cons_zero, List.set_cons_succ]) | (refine Ord.wpOrd_take (v := ?_) ?_ ?_ ?_; rotate_left; (focus (go_simp; done)); (focus (intro w' hSw; (try dsimp only at hSw); go_simp; (try with_reducible rfl); done)); simp only [Act.put, List.setIfInBounds_toArray, List.set_cons_zero, List.set_cons_succ])))
      refine Ord.wpOrd_load_mid ?_ 22 _ rfl w.heap.size 0 rfl X _ (fun w h => h.2) Try.underlying22 rfl Hix.out ?_
      focus (go_simp; done)
      ((try simp only [Act.put, List.setIfInBounds_toArray, List.set_cons_zero, List.set_cons_succ]); repeat (first | (refine Ord.wpOrd_skip ?_ ?_; (focus (go_simp; (try (intro h; cases h)); done)); simp only [Act.put, List.setIfInBounds_toArray, List.set_cons_zero, List.set_cons_succ]) | (refine Ord.wpOrd_take (v := ?_) ?_ ?_ ?_; rotate_left; (focus (go_simp; done)); (focus (intro w' hSw; (try dsimp only at hSw); go_simp; (try with_reducible rfl); done)); simp only [Act.put, List.setIfInBounds_toArray, List.set_cons_zero, List.set_cons_succ])))
      refine Ord.wpOrd_bin ?_ .eql 22 _ _ _ rfl (.agg Y.toArray) (.agg X.toArray) (.bool true) rfl rfl (fun w' => run_eqGuard_agg w' _ _ _ _ _ _ (by kernel_rfl)) Hq.out ?_
      focus (go_simp; done)
      refine Ord.wpOrd_nil ?_
      go_wp2_with fail
      go_ret
      exact ⟨ret_b Hf.out.symm, below_go hB.drew hb0⟩
theorem rtake_succ (l : List Id) (k : Nat) (h : k < l.length) : l.take (k + 1) = l.take k ++ [l.getD k []] := by
  rw [List.take_succ_eq_append_getElem h, List.getD_eq_getElem?_getD, List.getElem?_eq_getElem h]; rfl
theorem rtake_ne {l m : List Id} {k : Nat} (h : (l.getD k [] == m.getD k []) = false) : (l == m) = false := by
  rw [beq_eq_false_iff_ne]; rintro rfl; simp at h
set_option maxRecDepth 100000 in
set_option maxHeartbeats 4000000 in
theorem rSame_any (l1 l2 : List Id) (w1 : W32 l1) (w2 : W32 l2) (v1 v2 : Value) (w : World) (h1 : Rd w 32 v1 l1.length (ix l1)) (h2 : Rd w 32 v2 l2.length (ix l2)) :
    Calls Try.prog 31 #[v1, v2] w fun r w' => r = .returned (.bool (l1 == l2)) ∧ Below w.heap.size w w' := by
  obtain ⟨A1, c1, rfl, ha1, ha2, -⟩ := h1.slice_
  obtain ⟨A2, c2, rfl, hb1, hb2, -⟩ := h2.slice_
  unfold maxLen at ha2 hb2
  by_cases hl : l1.length = l2.length
  rotate_left
  · have hf : (l1 == l2) = false := by rw [beq_eq_false_iff_ne]; rintro rfl; exact hl rfl
    have hd : decide ((l1.length : Int) = (l2.length : Int)) = false := decide_eq_false (by omega)
    rw [hf]
    clear h1 h2
    go_enter Try.func31, Try.ntmps31
    go_wp2_with fail
    go_ret
    exact ⟨rfl, Below.refl _ _⟩
  obtain ⟨n, hn⟩ : ∃ n, n = l1.length := ⟨_, rfl⟩
  rw [← hn] at h1 hl ha1 ⊢
  rw [← hl] at h2 hb1 ⊢
  have H1 := Lib.hid h1
  have H2 := Lib.hid h2
  have Hn := Lib.hid hn
  have Hl := Lib.hid hl
  have W1 := Lib.hid w1
  have W2 := Lib.hid w2
  clear h1 h2 hn hl w1 w2
  go_enter Try.func31, Try.ntmps31
  go_wp2_with fail
  go_loopw [5] (fun i wr => ∃ k : Nat, k ≤ n ∧ i = .int .i64 (k : Int) ∧ Hid (l1.take k = l2.take k) ∧ Below w.heap.size w wr) (fun i _ => n - (intOf i).toNat)
  case atStart => exact ⟨0, Nat.zero_le _, rfl, Lib.hid rfl, Below.refl _ _⟩
  case round =>
    obtain ⟨k, hkl, rfl, Hs, hB⟩ := hrel
    by_cases hkn : k < n
    · obtain ⟨b, off, rfl, hcell⟩ := ix_at (H1.out.below hB) W1.out Hn.out (by omega)
      obtain ⟨b2, off2, rfl, hcell2⟩ := ix_at (H2.out.below hB) W2.out Hl.out (by omega)
      have hck := hcell k hkn
      have hck2 := hcell2 k hkn
      have Hx := Lib.hid (rtake_succ l1 k (by have := Hn.out; omega))
      have Hy := Lib.hid (rtake_succ l2 k (by have := Hl.out; omega))
      have Hne := Lib.hid (@rtake_ne l1 l2 k)
      have hxl := W1.out.get k (by have := Hn.out; omega)
      have hyl := W2.out.get k (by have := Hl.out; omega)
      obtain ⟨x, hx⟩ : ∃ x, x = l1.getD k [] := ⟨_, rfl⟩
      obtain ⟨y, hy⟩ : ∃ x, x = l2.getD k [] := ⟨_, rfl⟩
      rw [← hx] at hck Hx Hne hxl
      rw [← hy] at hck2 Hy Hne hyl
      have hq := fun W => neqA W x y hxl hyl
      have hqe := @eq_of_beq Id _ _ x y
      obtain ⟨q, hq0⟩ : ∃ q, q = (x == y) := ⟨_, rfl⟩
      obtain ⟨X, hX⟩ : ∃ X, X = bs x := ⟨_, rfl⟩
      obtain ⟨Y, hY⟩ : ∃ X, X = bs y := ⟨_, rfl⟩
      have Hi1 := Lib.hid (show (Try.prog.info? 22).map (·.size) = some X.length by rw [hX, bs_length, hxl]; rfl)
      have Hi2 := Lib.hid (show (Try.prog.info? 22).map (·.size) = some Y.length by rw [hY, bs_length, hyl]; rfl)
      rw [← hX] at hck hq
      rw [← hY] at hck2 hq
      rw [← hq0] at hq Hne hqe
      have Hq := Lib.hid hq
      have Hqe := Lib.hid hqe
      clear hcell hcell2 hx hy hX hY hq hqe hq0 hxl hyl
      have hd1 : decide ((k : Int) < (n : Int)) = true := decide_eq_true (by omega)
      have hi3 : (0 : Int) ≤ (k : Int) := by omega
      have hi4 : (k : Int) < (n : Int) := by omega
      cases q
      · go_wp2_with fail
        (refine Ord.wp_region_ord [(false, 0), (false, 1), (false, 2), (false, 3), (false, 4), (false, 5), (false, 6), (false, 7), (false, 8)] (fun W => W.rangeAt b (off + k * 32) X ∧ W.rangeAt b2 (off2 + k * 32) Y) (by kernel_rfl) (by kernel_rfl) (by kernel_rfl) (by kernel_rfl) (by exact ⟨hck, hck2⟩) ?_; simp only [Ord.ordOps, List.filterMap_cons, List.filterMap_nil, List.getElem?_toArray, List.getElem?_cons_succ, List.getElem?_cons_zero, Option.map_some]; repeat (first | (refine Ord.wpOrd_skip ?_ ?_; (focus (go_simp; (try (intro h; cases h)); done)); simp only [Act.put, List.setIfInBounds_toArray, List.set_cons_zero, List.set_cons_succ]) | (refine Ord.wpOrd_take (v := ?_) ?_ ?_ ?_; rotate_left; (focus (go_simp; done)); (focus (intro w' hSw; (try dsimp only at hSw); go_simp; (try with_reducible rfl); done)); simp only [Act.put, List.setIfInBounds_toArray, List.set_cons_zero, List.set_cons_succ])))
        refine Ord.wpOrd_load_mid ?_ 22 _ rfl b (off + k * 32) rfl X _ (fun w h => h.1) Try.underlying22 rfl Hi1.out ?_
        focus (go_simp; done)
        ((try simp only [Act.put, List.setIfInBounds_toArray, List.set_cons_zero, List.set_cons_succ]); repeat (first | (refine Ord.wpOrd_skip ?_ ?_; (focus (go_simp; (try (intro h; cases h)); done)); simp only [Act.put, List.setIfInBounds_toArray, List.set_cons_zero, List.set_cons_succ]) | (refine Ord.wpOrd_take (v := ?_) ?_ ?_ ?_; rotate_left; (focus (go_simp; done)); (focus (intro w' hSw; (try dsimp only at hSw); go_simp; (try with_reducible rfl); done)); simp only [Act.put, List.setIfInBounds_toArray, List.set_cons_zero, List.set_cons_succ])))
        refine Ord.wpOrd_load_mid ?_ 22 _ rfl b2 (off2 + k * 32) rfl Y _ (fun w h => h.2) Try.underlying22 rfl Hi2.out ?_
        focus (go_simp; done)
        ((try simp only [Act.put, List.setIfInBounds_toArray, List.set_cons_zero, List.set_cons_succ]); repeat (first | (refine Ord.wpOrd_skip ?_ ?_; (focus (go_simp; (try (intro h; cases h)); done)); simp only [Act.put, List.setIfInBounds_toArray, List.set_cons_zero, List.set_cons_succ]) | (refine Ord.wpOrd_take (v := ?_) ?_ ?_ ?_; rotate_left; (focus (go_simp; done)); (focus (intro w' hSw; (try dsimp only at hSw); go_simp; (try with_reducible rfl); done)); simp only [Act.put, List.setIfInBounds_toArray, List.set_cons_zero, List.set_cons_succ])))
        refine Ord.wpOrd_bin ?_ .neq 22 _ _ _ rfl (.agg X.toArray) (.agg Y.toArray) (.bool true) rfl rfl (fun w' => run_eqGuard_agg w' _ _ _ _ _ _ (by kernel_rfl)) Hq.out ?_
        focus (go_simp; done)
        refine Ord.wpOrd_nil ?_
        go_wp2_with fail
        go_ret
        exact ⟨ret_b (Hne.out trivial).symm, hB.drew⟩
      · go_wp2_with fail
        (refine Ord.wp_region_ord [(false, 0), (false, 1), (false, 2), (false, 3), (false, 4), (false, 5), (false, 6), (false, 7), (false, 8)] (fun W => W.rangeAt b (off + k * 32) X ∧ W.rangeAt b2 (off2 + k * 32) Y) (by kernel_rfl) (by kernel_rfl) (by kernel_rfl) (by kernel_rfl) (by exact ⟨hck, hck2⟩) ?_; simp only [Ord.ordOps, List.filterMap_cons, List.filterMap_nil, List.getElem?_toArray, List.getElem?_cons_succ, List.getElem?_cons_zero, Option.map_some]; repeat (first | (refine Ord.wpOrd_skip ?_ ?_; (focus (go_simp; (try (intro h; cases h)); done)); simp only [Act.put, List.setIfInBounds_toArray, List.set_cons_zero, List.set_cons_succ]) | (refine Ord.wpOrd_take (v := ?_) ?_ ?_ ?_; rotate_left; (focus (go_simp; done)); (focus (intro w' hSw; (try dsimp only at hSw); go_simp; (try with_reducible rfl); done)); simp only [Act.put, List.setIfInBounds_toArray, List.set_cons_zero, List.set_cons_succ])))
        refine Ord.wpOrd_load_mid ?_ 22 _ rfl b (off + k * 32) rfl X _ (fun w h => h.1) Try.underlying22 rfl Hi1.out ?_
        focus (go_simp; done)
        ((try simp only [Act.put, List.setIfInBounds_toArray, List.set_cons_zero, List.set_cons_succ]); repeat (first | (refine Ord.wpOrd_skip ?_ ?_; (focus (go_simp; (try (intro h; cases h)); done)); simp only [Act.put, List.setIfInBounds_toArray, List.set_cons_zero, List.set_cons_succ]) | (refine Ord.wpOrd_take (v := ?_) ?_ ?_ ?_; rotate_left; (focus (go_simp; done)); (focus (intro w' hSw; (try dsimp only at hSw); go_simp; (try with_reducible rfl); done)); simp only [Act.put, List.setIfInBounds_toArray, List.set_cons_zero, List.set_cons_succ])))
        refine Ord.wpOrd_load_mid ?_ 22 _ rfl b2 (off2 + k * 32) rfl Y _ (fun w h => h.2) Try.underlying22 rfl Hi2.out ?_
        focus (go_simp; done)
        ((try simp only [Act.put, List.setIfInBounds_toArray, List.set_cons_zero, List.set_cons_succ]); repeat (first | (refine Ord.wpOrd_skip ?_ ?_; (focus (go_simp; (try (intro h; cases h)); done)); simp only [Act.put, List.setIfInBounds_toArray, List.set_cons_zero, List.set_cons_succ]) | (refine Ord.wpOrd_take (v := ?_) ?_ ?_ ?_; rotate_left; (focus (go_simp; done)); (focus (intro w' hSw; (try dsimp only at hSw); go_simp; (try with_reducible rfl); done)); simp only [Act.put, List.setIfInBounds_toArray, List.set_cons_zero, List.set_cons_succ])))
        refine Ord.wpOrd_bin ?_ .neq 22 _ _ _ rfl (.agg X.toArray) (.agg Y.toArray) (.bool false) rfl rfl (fun w' => run_eqGuard_agg w' _ _ _ _ _ _ (by kernel_rfl)) Hq.out ?_
        focus (go_simp; done)
        refine Ord.wpOrd_nil ?_
        go_wp2_with fail
        exact ⟨⟨k + 1, by omega, by go_num, Lib.hid (by rw [Hx.out, Hy.out, Hs.out, Hqe.out trivial]), hB.drew⟩, by simp only [intOf]; omega⟩
    · obtain rfl : k = n := by omega
      have hd1 : decide ((k : Int) < (k : Int)) = false := decide_eq_false (by omega)
      go_wp2_with fail
      go_ret
      refine ⟨ret_b ?_, hB⟩
      have h := Hs.out
      rw [List.take_of_length_le (by have := Hn.out; omega), List.take_of_length_le (by have := Hl.out; omega)] at h
      rw [h]; simp
end Go.Proofs.Ytpldkplfdbjidaa.Ids
