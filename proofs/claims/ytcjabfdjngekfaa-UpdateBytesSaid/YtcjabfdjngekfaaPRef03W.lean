/- The reference of ids, walked: Less, Has, With, Of, Same. -/
import Derived.Test.YtcjabfdjngekfaaRef03Pure
import Derived.Test.YtcjabfdjngekfaaIdsW
import Derived.Test.YtcjabfdjngekfaaShaNobody
import Derived.Test.YtcjabfdjngekfaaEqF
import Derived.Test.YtcjabfdjngekfaaAppO
import Derived.Great.BuildSlice
import Derived.Test.YtcjabfdjngekfaaRef01W
import Derived.Test.YtcjabfdjngekfaaIdsR
import Derived.Test.YtcjabfdjngekfaaShaConsts
set_option linter.unusedVariables false
set_option linter.unusedSimpArgs false
namespace Go.Proofs.Ytcjabfdjngekfaa.Ids
open Go.RowKit Go.Proofs.Ytcjabfdjngekfaa.Wd Go.Proofs.Ytcjabfdjngekfaa.Use Go.Proofs.Ytcjabfdjngekfaa.Lay

theorem bs_at (l : List UInt8) (k : Nat) (h : k < l.length) : (bs l)[k]? = some (.int .u8 ((l.getD k 0).toNat : Int)) := by
  simp [bs, List.getElem?_eq_getElem h]
theorem take_same {a b : List UInt8} {k : Nat} (ha : k < a.length) (hb : k < b.length) (h : a.take k = b.take k) (e : a.getD k 0 = b.getD k 0) : a.take (k + 1) = b.take (k + 1) := by
  rw [List.take_succ_eq_append_getElem ha, List.take_succ_eq_append_getElem hb, h]
  rw [List.getD_eq_getElem?_getD, List.getD_eq_getElem?_getD, List.getElem?_eq_getElem ha, List.getElem?_eq_getElem hb] at e
  simp only [Option.getD_some] at e
  rw [e]
theorem lt_at' {a b : Id} (k : Nat) (ha : k < a.length) (hb : k < b.length) (he : a.take k = b.take k) (hne : a.getD k 0 ≠ b.getD k 0) : lt a b = decide ((a.getD k 0).toNat < (b.getD k 0).toNat) := by
  rw [List.getD_eq_getElem?_getD, List.getD_eq_getElem?_getD, List.getElem?_eq_getElem ha, List.getElem?_eq_getElem hb] at *
  simp only [Option.getD_some] at *
  rw [lt_at k ha hb he hne]; rfl
set_option maxRecDepth 100000 in
set_option maxHeartbeats 4000000 in
theorem rLess_any (a b : Id) (ha : a.length = 32) (hb : b.length = 32) (w : World) :
    Calls Try.prog 78 #[.agg (bs a).toArray, .agg (bs b).toArray] w fun e w' => e = .returned (.bool (lt a b)) ∧ Below w.heap.size w w' := by
  obtain ⟨A, hA⟩ : ∃ A, A = bs a := ⟨_, rfl⟩
  obtain ⟨B, hB⟩ : ∃ B, B = bs b := ⟨_, rfl⟩
  obtain ⟨W0, hW0⟩ : ∃ W, W = (w.alloc (.cells A.toArray 43)).alloc (.cells B.toArray 43) := ⟨_, rfl⟩
  have Hc := Lib.hid (show ∀ W, Below W0.heap.size W0 W → ∀ k, k < 32 → W.cell? ⟨w.heap.size, k, none⟩ = some (.int .u8 ((a.getD k 0).toNat : Int)) ∧ W.cell? ⟨w.heap.size + 1, k, none⟩ = some (.int .u8 ((b.getD k 0).toNat : Int)) from by
    intro W h k hk
    rw [hW0] at h
    have h1 := blk_below (blk_alloc (heap_alloc_new w (.cells A.toArray 43)) (.cells B.toArray 43)) h
    have h2 := blk_below (alloc_at w (.cells A.toArray 43) (.cells B.toArray 43)) h
    rw [blk_cell h1 k, blk_cell h2 k]
    simp only [List.getElem?_toArray]
    rw [hA, hB, bs_at a k (by omega), bs_at b k (by omega)]
    exact ⟨rfl, rfl⟩)
  have hb0 : Below w.heap.size w W0 := by rw [hW0]; exact below_two _ _ _
  have HW0 := Lib.hid hW0
  rw [← hA, ← hB]
  have Ha := Lib.hid ha
  have Hb := Lib.hid hb
  clear hW0 hA hB ha hb
  go_enter Try.func78, Try.ntmps78
  go_upto_region 2 with fail
  rw [← HW0.out]
  go_loopw [5] (fun i_ wr => ∃ k : Nat, k ≤ 32 ∧ i_ = .int .i64 (k : Int) ∧ Hid (a.take k = b.take k) ∧ Below W0.heap.size W0 wr) (fun i_ _ => 32 - (intOf i_).toNat)
  case atStart => exact ⟨0, by omega, rfl, Lib.hid rfl, Below.refl _ _⟩
  case round =>
    obtain ⟨k, hk, rfl, He, hB⟩ := hrel
    by_cases hk32 : k < 32
    rotate_left
    · obtain rfl : k = 32 := by omega
      have Hf := Lib.hid (show lt a b = false from by
        have h := He.out
        rw [List.take_of_length_le (by rw [Ha.out]; exact Nat.le_refl _), List.take_of_length_le (by rw [Hb.out]; exact Nat.le_refl _)] at h
        rw [h]; exact Leaf.lt_irr b)
      go_wp2_with fail
      go_ret
      exact ⟨ret_b Hf.out.symm, below_go hB hb0⟩
    have hd : decide ((k : Int) < 32) = true := decide_eq_true (by omega)
    have i0 : (0 : Int) ≤ (k : Int) := by omega
    have i1 : (k : Int) < 32 := by omega
    obtain ⟨c1, c2⟩ := Hc.out wr hB k hk32
    have Htk := Lib.hid (take_same (a := a) (b := b) (k := k) (by rw [Ha.out]; exact hk32) (by rw [Hb.out]; exact hk32) He.out)
    have Hla := Lib.hid (lt_at' (a := a) (b := b) k (by rw [Ha.out]; exact hk32) (by rw [Hb.out]; exact hk32) He.out)
    generalize a.getD k 0 = x at c1 Htk Hla
    generalize b.getD k 0 = y at c2 Htk Hla
    by_cases hxy : x = y
    · subst hxy
      go_wp2_with fail
      (refine Ord.wp_region_ord [(false, 0), (false, 1), (false, 2), (false, 3), (false, 4), (false, 5), (false, 6)] (fun W => W.cell? ⟨w.heap.size, k, none⟩ = some (.int .u8 (x.toNat : Int)) ∧ W.cell? ⟨w.heap.size + 1, k, none⟩ = some (.int .u8 (x.toNat : Int))) (by kernel_rfl) (by kernel_rfl) (by kernel_rfl) (by kernel_rfl) (by exact ⟨c1, c2⟩) ?_; simp only [Ord.ordOps, List.filterMap_cons, List.filterMap_nil, List.getElem?_toArray, List.getElem?_cons_succ, List.getElem?_cons_zero, Option.map_some]; repeat (first | (refine Ord.wpOrd_skip ?_ ?_; (focus (go_simp; (try (intro h; cases h)); done)); simp only [Act.put, List.setIfInBounds_toArray, List.set_cons_zero, List.set_cons_succ]) | (refine Ord.wpOrd_take (v := ?_) ?_ ?_ ?_; rotate_left; (focus (go_simp; done)); (focus (intro w' hSw; (try dsimp only at hSw); go_simp; (try with_reducible rfl); done)); simp only [Act.put, List.setIfInBounds_toArray, List.set_cons_zero, List.set_cons_succ])))
      refine Ord.wpOrd_nil ?_
      go_wp2_with fail
      exact ⟨⟨k + 1, by omega, by go_num, Lib.hid (Htk.out trivial), hB.drew⟩, by simp only [intOf]; omega⟩
    · have hne : ((x.toNat : Int) != (y.toNat : Int)) = true := by rw [bne_iff_ne]; exact fun e => hxy (UInt8.toNat_inj.1 (by omega))
      have Hl := Lib.hid (Hla.out hxy)
      go_wp2_with fail
      (refine Ord.wp_region_ord [(false, 0), (false, 1), (false, 2), (false, 3), (false, 4), (false, 5), (false, 6)] (fun W => W.cell? ⟨w.heap.size, k, none⟩ = some (.int .u8 (x.toNat : Int)) ∧ W.cell? ⟨w.heap.size + 1, k, none⟩ = some (.int .u8 (y.toNat : Int))) (by kernel_rfl) (by kernel_rfl) (by kernel_rfl) (by kernel_rfl) (by exact ⟨c1, c2⟩) ?_; simp only [Ord.ordOps, List.filterMap_cons, List.filterMap_nil, List.getElem?_toArray, List.getElem?_cons_succ, List.getElem?_cons_zero, Option.map_some]; repeat (first | (refine Ord.wpOrd_skip ?_ ?_; (focus (go_simp; (try (intro h; cases h)); done)); simp only [Act.put, List.setIfInBounds_toArray, List.set_cons_zero, List.set_cons_succ]) | (refine Ord.wpOrd_take (v := ?_) ?_ ?_ ?_; rotate_left; (focus (go_simp; done)); (focus (intro w' hSw; (try dsimp only at hSw); go_simp; (try with_reducible rfl); done)); simp only [Act.put, List.setIfInBounds_toArray, List.set_cons_zero, List.set_cons_succ])))
      refine Ord.wpOrd_nil ?_
      go_wp2_with fail
      (refine Ord.wp_region_ord [(false, 0), (false, 1), (false, 2), (false, 3), (false, 4), (false, 5), (false, 6), (false, 7)] (fun W => W.cell? ⟨w.heap.size, k, none⟩ = some (.int .u8 (x.toNat : Int)) ∧ W.cell? ⟨w.heap.size + 1, k, none⟩ = some (.int .u8 (y.toNat : Int))) (by kernel_rfl) (by kernel_rfl) (by kernel_rfl) (by kernel_rfl) (by exact ⟨c1, c2⟩) ?_; simp only [Ord.ordOps, List.filterMap_cons, List.filterMap_nil, List.getElem?_toArray, List.getElem?_cons_succ, List.getElem?_cons_zero, Option.map_some]; repeat (first | (refine Ord.wpOrd_skip ?_ ?_; (focus (go_simp; (try (intro h; cases h)); done)); simp only [Act.put, List.setIfInBounds_toArray, List.set_cons_zero, List.set_cons_succ]) | (refine Ord.wpOrd_take (v := ?_) ?_ ?_ ?_; rotate_left; (focus (go_simp; done)); (focus (intro w' hSw; (try dsimp only at hSw); go_simp; (try with_reducible rfl); done)); simp only [Act.put, List.setIfInBounds_toArray, List.set_cons_zero, List.set_cons_succ])))
      refine Ord.wpOrd_nil ?_
      go_wp2_with fail
      go_ret
      exact ⟨ret_b Hl.out.symm, below_go hB.drew.drew hb0⟩
end Go.Proofs.Ytcjabfdjngekfaa.Ids
set_option linter.unusedVariables false
set_option linter.unusedSimpArgs false
namespace Go.Proofs.Ytcjabfdjngekfaa.Ids
open Go.RowKit Go.Proofs.Ytcjabfdjngekfaa.Wd Go.Proofs.Ytcjabfdjngekfaa.Use Go.Proofs.Ytcjabfdjngekfaa.Lay

theorem eqA (w : World) (xs ys : List UInt8) (hx : xs.length = 32) (hy : ys.length = 32) : (Op.equalIn 10000 43 (.agg (bs xs).toArray) (.agg (bs ys).toArray)).run Try.prog w = .ok (xs == ys) w :=
  Go.run_equalIn_bytes w 9998 43 5 32 Try.underlying43 Try.underlying5 Sha.sz8 xs ys hx hy
theorem eqlA (w : World) (xs ys : List UInt8) (hx : xs.length = 32) (hy : ys.length = 32) : (binOp .eql 43 (.agg (bs xs).toArray) (.agg (bs ys).toArray)).run Try.prog w = .ok (.bool (xs == ys)) w := by
  rw [run_eql_struct, eqA w xs ys hx hy]; rfl
theorem neqA (w : World) (xs ys : List UInt8) (hx : xs.length = 32) (hy : ys.length = 32) : (binOp .neq 43 (.agg (bs xs).toArray) (.agg (bs ys).toArray)).run Try.prog w = .ok (.bool (!(xs == ys))) w := by
  rw [run_neq_struct, eqA w xs ys hx hy]; rfl
theorem not_mem_take {l : List Id} {x : Id} {k : Nat} (h : x ∉ l.take k) (hk : k < l.length) (hne : (l.getD k [] == x) = false) : x ∉ l.take (k + 1) := by
  rw [List.take_succ_eq_append_getElem hk]
  intro hm
  rcases List.mem_append.1 hm with hm | hm
  · exact h hm
  · rw [List.mem_singleton] at hm
    rw [List.getD_eq_getElem?_getD, List.getElem?_eq_getElem hk, Option.getD_some, ← hm] at hne
    simp at hne
theorem mem_at {l : List Id} {x : Id} {k : Nat} (hk : k < l.length) (he : (l.getD k [] == x) = true) : x ∈ l := by
  rw [List.getD_eq_getElem?_getD, List.getElem?_eq_getElem hk, Option.getD_some] at he
  rw [← eq_of_beq he]; exact List.getElem_mem hk
set_option maxRecDepth 100000 in
set_option maxHeartbeats 4000000 in
theorem rHas_any (l : List Id) (x : Id) (h32 : W32 l) (hx : x.length = 32) (v : Value) (w : World) (hv : Rd w 32 v l.length (ix l)) :
    Calls Try.prog 177 #[v, .agg (bs x).toArray] w fun e w' => e = .returned (.bool (decide (x ∈ l))) ∧ Below w.heap.size w w' := by
  obtain ⟨A, c, rfl, hc1, hc2, -⟩ := hv.slice_
  unfold maxLen at hc2
  obtain ⟨X, hX⟩ : ∃ X, X = bs x := ⟨_, rfl⟩
  obtain ⟨W0, hW0⟩ : ∃ W, W = w.alloc (.cells X.toArray 43) := ⟨_, rfl⟩
  have Hra := Lib.hid (show ∀ W, Below W0.heap.size W0 W → W.rangeAt w.heap.size 0 X from fun W h => by rw [hW0] at h; exact range_all (t := 43) (blk_below (heap_alloc_new _ _) h))
  have hb0 : Below w.heap.size w W0 := by rw [hW0]; exact below_one _ _
  have Hix := Lib.hid (show (Try.prog.info? 43).map (·.size) = some X.length by rw [hX, bs_length, hx]; rfl)
  have heq := fun W (y : Id) (hy : y.length = 32) => eqlA W y x hy hx
  rw [← hX] at heq ⊢
  have HW0 := Lib.hid hW0
  have Hv := Lib.hid hv
  have H32 := Lib.hid h32
  have Heq := Lib.hid heq
  obtain ⟨n, hn⟩ : ∃ n, n = l.length := ⟨_, rfl⟩
  rw [← hn] at Hv hc1 ⊢
  have Hn := Lib.hid hn
  clear hW0 hX hv h32 heq hn hx
  go_enter Try.func177, Try.ntmps177
  go_upto_region 2 with fail
  rw [← HW0.out]
  go_loopw [5] (fun i_ wr => ∃ k : Nat, k ≤ n ∧ i_ = .int .i64 (k : Int) ∧ Hid (x ∉ l.take k) ∧ Below W0.heap.size W0 wr) (fun i_ _ => n - (intOf i_).toNat)
  case atStart => exact ⟨0, Nat.zero_le _, rfl, Lib.hid (by simp), Below.refl _ _⟩
  case round =>
    obtain ⟨k, hk, rfl, Hno, hB⟩ := hrel
    by_cases hkn : k < n
    rotate_left
    · obtain rfl : k = n := by omega
      have hd1 : decide ((k : Int) < (k : Int)) = false := decide_eq_false (by omega)
      have Hf := Lib.hid (show decide (x ∈ l) = false from decide_eq_false (fun h => Hno.out (by rw [List.take_of_length_le (by rw [← Hn.out]; exact Nat.le_refl _)]; exact h)))
      go_wp2_with fail
      go_ret
      exact ⟨ret_b Hf.out.symm, below_go hB hb0⟩
    have hd1 : decide ((k : Int) < (n : Int)) = true := decide_eq_true (by omega)
    have i0 : (0 : Int) ≤ (k : Int) := by omega
    have i1 : (k : Int) < (n : Int) := by omega
    obtain ⟨b, off, rfl, hr⟩ := ix_at (Hv.out.below (below_go hB hb0)) H32.out Hn.out (by omega)
    have hr1 := hr k hkn
    have hyl := H32.out.get k (by have := Hn.out; omega)
    have hq := fun W => Heq.out W _ hyl
    have Hnm := Lib.hid (fun h => not_mem_take Hno.out (show k < l.length by have := Hn.out; omega) h)
    have Hme := Lib.hid (fun h => mem_at (x := x) (show k < l.length by have := Hn.out; omega) h)
    generalize l.getD k [] = y at hr1 hyl hq Hnm Hme
    generalize (y == x) = q at hq Hnm Hme
    obtain ⟨Y, hY⟩ : ∃ Y, Y = bs y := ⟨_, rfl⟩
    have Hiy := Lib.hid (show (Try.prog.info? 43).map (·.size) = some Y.length by rw [hY, bs_length, hyl]; rfl)
    rw [← hY] at hr1 hq
    have Hq := Lib.hid hq
    have hx1 := Hra.out wr hB
    clear hr hyl hq hY
    cases q
    · go_wp2_with fail
      (refine Ord.wp_region_ord [(false, 0), (false, 1), (false, 2), (false, 3), (false, 4), (false, 5)] (fun W => W.rangeAt b (off + k * 32) Y ∧ W.rangeAt w.heap.size 0 X) (by kernel_rfl) (by kernel_rfl) (by kernel_rfl) (by kernel_rfl) (by exact ⟨hr1, hx1⟩) ?_; simp only [Ord.ordOps, List.filterMap_cons, List.filterMap_nil, List.getElem?_toArray, List.getElem?_cons_succ, List.getElem?_cons_zero, Option.map_some]; repeat (first | (refine Ord.wpOrd_skip ?_ ?_; (focus (go_simp; (try (intro h; cases h)); done)); simp only [Act.put, List.setIfInBounds_toArray, List.set_cons_zero, List.set_cons_succ]) | (refine Ord.wpOrd_take (v := ?_) ?_ ?_ ?_; rotate_left; (focus (go_simp; done)); (focus (intro w' hSw; (try dsimp only at hSw); go_simp; (try with_reducible rfl); done)); simp only [Act.put, List.setIfInBounds_toArray, List.set_cons_zero, List.set_cons_succ])))
      refine Ord.wpOrd_load_mid ?_ 43 _ rfl b (off + k * 32) rfl Y _ (fun w h => h.1) Try.underlying43 rfl Hiy.out ?_
      focus (go_simp; done)
      ((try simp only [Act.put, List.setIfInBounds_toArray, List.set_cons_zero, List.set_cons_succ]); repeat (first | (refine Ord.wpOrd_skip ?_ ?_; (focus (go_simp; (try (intro h; cases h)); done)); simp only [Act.put, List.setIfInBounds_toArray, List.set_cons_zero, List.set_cons_succ]) | (refine Ord.wpOrd_take (v := ?_) ?_ ?_ ?_; rotate_left; (focus (go_simp; done)); (focus (intro w' hSw; (try dsimp only at hSw); go_simp; (try with_reducible rfl); done)); simp only [Act.put, List.setIfInBounds_toArray, List.set_cons_zero, List.set_cons_succ])))
      refine Ord.wpOrd_load_mid ?_ 43 _ rfl w.heap.size 0 rfl X _ (fun w h => h.2) Try.underlying43 rfl Hix.out ?_
      focus (go_simp; done)
      ((try simp only [Act.put, List.setIfInBounds_toArray, List.set_cons_zero, List.set_cons_succ]); repeat (first | (refine Ord.wpOrd_skip ?_ ?_; (focus (go_simp; (try (intro h; cases h)); done)); simp only [Act.put, List.setIfInBounds_toArray, List.set_cons_zero, List.set_cons_succ]) | (refine Ord.wpOrd_take (v := ?_) ?_ ?_ ?_; rotate_left; (focus (go_simp; done)); (focus (intro w' hSw; (try dsimp only at hSw); go_simp; (try with_reducible rfl); done)); simp only [Act.put, List.setIfInBounds_toArray, List.set_cons_zero, List.set_cons_succ])))
      refine Ord.wpOrd_bin ?_ .eql 43 _ _ _ rfl (.agg Y.toArray) (.agg X.toArray) (.bool false) rfl rfl (fun w' => run_eqGuard_agg w' _ _ _ _ _ _ (by kernel_rfl)) Hq.out ?_
      focus (go_simp; done)
      refine Ord.wpOrd_nil ?_
      go_wp2_with fail
      exact ⟨⟨k + 1, by omega, by go_num, Lib.hid (Hnm.out (by trivial)), hB.drew⟩, by simp only [intOf]; omega⟩
    · have Hf := Lib.hid (show decide (x ∈ l) = true from decide_eq_true (Hme.out (by trivial)))
      go_wp2_with fail
      (refine Ord.wp_region_ord [(false, 0), (false, 1), (false, 2), (false, 3), (false, 4), (false, 5)] (fun W => W.rangeAt b (off + k * 32) Y ∧ W.rangeAt w.heap.size 0 X) (by kernel_rfl) (by kernel_rfl) (by kernel_rfl) (by kernel_rfl) (by exact ⟨hr1, hx1⟩) ?_; simp only [Ord.ordOps, List.filterMap_cons, List.filterMap_nil, List.getElem?_toArray, List.getElem?_cons_succ, List.getElem?_cons_zero, Option.map_some]; repeat (first | (refine Ord.wpOrd_skip ?_ ?_; (focus (go_simp; (try (intro h; cases h)); done)); simp only [Act.put, List.setIfInBounds_toArray, List.set_cons_zero, List.set_cons_succ]) | (refine Ord.wpOrd_take (v := ?_) ?_ ?_ ?_; rotate_left; (focus (go_simp; done)); (focus (intro w' hSw; (try dsimp only at hSw); go_simp; (try with_reducible rfl); done)); simp only [Act.put, List.setIfInBounds_toArray, List.set_cons_zero, List.set_cons_succ])))
      refine Ord.wpOrd_load_mid ?_ 43 _ rfl b (off + k * 32) rfl Y _ (fun w h => h.1) Try.underlying43 rfl Hiy.out ?_
      focus (go_simp; done)
      ((try simp only [Act.put, List.setIfInBounds_toArray, List.set_cons_zero, List.set_cons_succ]); repeat (first | (refine Ord.wpOrd_skip ?_ ?_; (focus (go_simp; (try (intro h; cases h)); done)); simp only [Act.put, List.setIfInBounds_toArray, List.set_cons_zero, List.set_cons_succ]) | (refine Ord.wpOrd_take (v := ?_) ?_ ?_ ?_; rotate_left; (focus (go_simp; done)); (focus (intro w' hSw; (try dsimp only at hSw); go_simp; (try with_reducible rfl); done)); simp only [Act.put, List.setIfInBounds_toArray, List.set_cons_zero, List.set_cons_succ])))
      refine Ord.wpOrd_load_mid ?_ 43 _ rfl w.heap.size 0 rfl X _ (fun w h => h.2) Try.underlying43 rfl Hix.out ?_
      focus (go_simp; done)
      ((try simp only [Act.put, List.setIfInBounds_toArray, List.set_cons_zero, List.set_cons_succ]); repeat (first | (refine Ord.wpOrd_skip ?_ ?_; (focus (go_simp; (try (intro h; cases h)); done)); simp only [Act.put, List.setIfInBounds_toArray, List.set_cons_zero, List.set_cons_succ]) | (refine Ord.wpOrd_take (v := ?_) ?_ ?_ ?_; rotate_left; (focus (go_simp; done)); (focus (intro w' hSw; (try dsimp only at hSw); go_simp; (try with_reducible rfl); done)); simp only [Act.put, List.setIfInBounds_toArray, List.set_cons_zero, List.set_cons_succ])))
      refine Ord.wpOrd_bin ?_ .eql 43 _ _ _ rfl (.agg Y.toArray) (.agg X.toArray) (.bool true) rfl rfl (fun w' => run_eqGuard_agg w' _ _ _ _ _ _ (by kernel_rfl)) Hq.out ?_
      focus (go_simp; done)
      refine Ord.wpOrd_nil ?_
      go_wp2_with fail
      go_ret
      exact ⟨ret_b Hf.out.symm, below_go hB.drew hb0⟩
theorem rtake_succ (l : List Id) (k : Nat) (h : k < l.length) : l.take (k + 1) = l.take k ++ [l.getD k []] := by
  rw [List.take_succ_eq_append_getElem h, List.getD_eq_getElem?_getD, List.getElem?_eq_getElem h]; rfl
theorem rtake_ne {l m : List Id} {k : Nat} (h : (l.getD k [] == m.getD k []) = false) : (l == m) = false := by
  rw [beq_eq_false_iff_ne]; rintro rfl; simp at h
set_option maxRecDepth 100000 in
set_option maxHeartbeats 4000000 in
theorem rSame_any (l1 l2 : List Id) (w1 : W32 l1) (w2 : W32 l2) (v1 v2 : Value) (w : World) (h1 : Rd w 32 v1 l1.length (ix l1)) (h2 : Rd w 32 v2 l2.length (ix l2)) :
    Calls Try.prog 127 #[v1, v2] w fun r w' => r = .returned (.bool (l1 == l2)) ∧ Below w.heap.size w w' := by
  obtain ⟨A1, c1, rfl, ha1, ha2, -⟩ := h1.slice_
  obtain ⟨A2, c2, rfl, hb1, hb2, -⟩ := h2.slice_
  unfold maxLen at ha2 hb2
  by_cases hl : l1.length = l2.length
  rotate_left
  · have hf : (l1 == l2) = false := by rw [beq_eq_false_iff_ne]; rintro rfl; exact hl rfl
    have hd : decide ((l1.length : Int) = (l2.length : Int)) = false := decide_eq_false (by omega)
    rw [hf]
    clear h1 h2
    go_enter Try.func127, Try.ntmps127
    go_wp2_with fail
    go_ret
    exact ⟨rfl, Below.refl _ _⟩
  obtain ⟨n, hn⟩ : ∃ n, n = l1.length := ⟨_, rfl⟩
  rw [← hn] at h1 hl ha1 ⊢
  rw [← hl] at h2 hb1 ⊢
  have H1 := Lib.hid h1
  have H2 := Lib.hid h2
  have Hn := Lib.hid hn
  have Hl := Lib.hid hl
  have W1 := Lib.hid w1
  have W2 := Lib.hid w2
  clear h1 h2 hn hl w1 w2
  go_enter Try.func127, Try.ntmps127
  go_wp2_with fail
  go_loopw [5] (fun i wr => ∃ k : Nat, k ≤ n ∧ i = .int .i64 (k : Int) ∧ Hid (l1.take k = l2.take k) ∧ Below w.heap.size w wr) (fun i _ => n - (intOf i).toNat)
  case atStart => exact ⟨0, Nat.zero_le _, rfl, Lib.hid rfl, Below.refl _ _⟩
  case round =>
    obtain ⟨k, hkl, rfl, Hs, hB⟩ := hrel
    by_cases hkn : k < n
    · obtain ⟨b, off, rfl, hcell⟩ := ix_at (H1.out.below hB) W1.out Hn.out (by omega)
      obtain ⟨b2, off2, rfl, hcell2⟩ := ix_at (H2.out.below hB) W2.out Hl.out (by omega)
      have hck := hcell k hkn
      have hck2 := hcell2 k hkn
      have Hx := Lib.hid (rtake_succ l1 k (by have := Hn.out; omega))
      have Hy := Lib.hid (rtake_succ l2 k (by have := Hl.out; omega))
      have Hne := Lib.hid (@rtake_ne l1 l2 k)
      have hxl := W1.out.get k (by have := Hn.out; omega)
      have hyl := W2.out.get k (by have := Hl.out; omega)
      obtain ⟨x, hx⟩ : ∃ x, x = l1.getD k [] := ⟨_, rfl⟩
      obtain ⟨y, hy⟩ : ∃ x, x = l2.getD k [] := ⟨_, rfl⟩
      rw [← hx] at hck Hx Hne hxl
      rw [← hy] at hck2 Hy Hne hyl
      have hq := fun W => neqA W x y hxl hyl
      have hqe := @eq_of_beq Id _ _ x y
      obtain ⟨q, hq0⟩ : ∃ q, q = (x == y) := ⟨_, rfl⟩
      obtain ⟨X, hX⟩ : ∃ X, X = bs x := ⟨_, rfl⟩
      obtain ⟨Y, hY⟩ : ∃ X, X = bs y := ⟨_, rfl⟩
      have Hi1 := Lib.hid (show (Try.prog.info? 43).map (·.size) = some X.length by rw [hX, bs_length, hxl]; rfl)
      have Hi2 := Lib.hid (show (Try.prog.info? 43).map (·.size) = some Y.length by rw [hY, bs_length, hyl]; rfl)
      rw [← hX] at hck hq
      rw [← hY] at hck2 hq
      rw [← hq0] at hq Hne hqe
      have Hq := Lib.hid hq
      have Hqe := Lib.hid hqe
      clear hcell hcell2 hx hy hX hY hq hqe hq0 hxl hyl
      have hd1 : decide ((k : Int) < (n : Int)) = true := decide_eq_true (by omega)
      have hi3 : (0 : Int) ≤ (k : Int) := by omega
      have hi4 : (k : Int) < (n : Int) := by omega
      cases q
      · go_wp2_with fail
        (refine Ord.wp_region_ord [(false, 0), (false, 1), (false, 2), (false, 3), (false, 4), (false, 5), (false, 6), (false, 7), (false, 8)] (fun W => W.rangeAt b (off + k * 32) X ∧ W.rangeAt b2 (off2 + k * 32) Y) (by kernel_rfl) (by kernel_rfl) (by kernel_rfl) (by kernel_rfl) (by exact ⟨hck, hck2⟩) ?_; simp only [Ord.ordOps, List.filterMap_cons, List.filterMap_nil, List.getElem?_toArray, List.getElem?_cons_succ, List.getElem?_cons_zero, Option.map_some]; repeat (first | (refine Ord.wpOrd_skip ?_ ?_; (focus (go_simp; (try (intro h; cases h)); done)); simp only [Act.put, List.setIfInBounds_toArray, List.set_cons_zero, List.set_cons_succ]) | (refine Ord.wpOrd_take (v := ?_) ?_ ?_ ?_; rotate_left; (focus (go_simp; done)); (focus (intro w' hSw; (try dsimp only at hSw); go_simp; (try with_reducible rfl); done)); simp only [Act.put, List.setIfInBounds_toArray, List.set_cons_zero, List.set_cons_succ])))
        refine Ord.wpOrd_load_mid ?_ 43 _ rfl b (off + k * 32) rfl X _ (fun w h => h.1) Try.underlying43 rfl Hi1.out ?_
        focus (go_simp; done)
        ((try simp only [Act.put, List.setIfInBounds_toArray, List.set_cons_zero, List.set_cons_succ]); repeat (first | (refine Ord.wpOrd_skip ?_ ?_; (focus (go_simp; (try (intro h; cases h)); done)); simp only [Act.put, List.setIfInBounds_toArray, List.set_cons_zero, List.set_cons_succ]) | (refine Ord.wpOrd_take (v := ?_) ?_ ?_ ?_; rotate_left; (focus (go_simp; done)); (focus (intro w' hSw; (try dsimp only at hSw); go_simp; (try with_reducible rfl); done)); simp only [Act.put, List.setIfInBounds_toArray, List.set_cons_zero, List.set_cons_succ])))
        refine Ord.wpOrd_load_mid ?_ 43 _ rfl b2 (off2 + k * 32) rfl Y _ (fun w h => h.2) Try.underlying43 rfl Hi2.out ?_
        focus (go_simp; done)
        ((try simp only [Act.put, List.setIfInBounds_toArray, List.set_cons_zero, List.set_cons_succ]); repeat (first | (refine Ord.wpOrd_skip ?_ ?_; (focus (go_simp; (try (intro h; cases h)); done)); simp only [Act.put, List.setIfInBounds_toArray, List.set_cons_zero, List.set_cons_succ]) | (refine Ord.wpOrd_take (v := ?_) ?_ ?_ ?_; rotate_left; (focus (go_simp; done)); (focus (intro w' hSw; (try dsimp only at hSw); go_simp; (try with_reducible rfl); done)); simp only [Act.put, List.setIfInBounds_toArray, List.set_cons_zero, List.set_cons_succ])))
        refine Ord.wpOrd_bin ?_ .neq 43 _ _ _ rfl (.agg X.toArray) (.agg Y.toArray) (.bool true) rfl rfl (fun w' => run_eqGuard_agg w' _ _ _ _ _ _ (by kernel_rfl)) Hq.out ?_
        focus (go_simp; done)
        refine Ord.wpOrd_nil ?_
        go_wp2_with fail
        go_ret
        exact ⟨ret_b (Hne.out trivial).symm, hB.drew⟩
      · go_wp2_with fail
        (refine Ord.wp_region_ord [(false, 0), (false, 1), (false, 2), (false, 3), (false, 4), (false, 5), (false, 6), (false, 7), (false, 8)] (fun W => W.rangeAt b (off + k * 32) X ∧ W.rangeAt b2 (off2 + k * 32) Y) (by kernel_rfl) (by kernel_rfl) (by kernel_rfl) (by kernel_rfl) (by exact ⟨hck, hck2⟩) ?_; simp only [Ord.ordOps, List.filterMap_cons, List.filterMap_nil, List.getElem?_toArray, List.getElem?_cons_succ, List.getElem?_cons_zero, Option.map_some]; repeat (first | (refine Ord.wpOrd_skip ?_ ?_; (focus (go_simp; (try (intro h; cases h)); done)); simp only [Act.put, List.setIfInBounds_toArray, List.set_cons_zero, List.set_cons_succ]) | (refine Ord.wpOrd_take (v := ?_) ?_ ?_ ?_; rotate_left; (focus (go_simp; done)); (focus (intro w' hSw; (try dsimp only at hSw); go_simp; (try with_reducible rfl); done)); simp only [Act.put, List.setIfInBounds_toArray, List.set_cons_zero, List.set_cons_succ])))
        refine Ord.wpOrd_load_mid ?_ 43 _ rfl b (off + k * 32) rfl X _ (fun w h => h.1) Try.underlying43 rfl Hi1.out ?_
        focus (go_simp; done)
        ((try simp only [Act.put, List.setIfInBounds_toArray, List.set_cons_zero, List.set_cons_succ]); repeat (first | (refine Ord.wpOrd_skip ?_ ?_; (focus (go_simp; (try (intro h; cases h)); done)); simp only [Act.put, List.setIfInBounds_toArray, List.set_cons_zero, List.set_cons_succ]) | (refine Ord.wpOrd_take (v := ?_) ?_ ?_ ?_; rotate_left; (focus (go_simp; done)); (focus (intro w' hSw; (try dsimp only at hSw); go_simp; (try with_reducible rfl); done)); simp only [Act.put, List.setIfInBounds_toArray, List.set_cons_zero, List.set_cons_succ])))
        refine Ord.wpOrd_load_mid ?_ 43 _ rfl b2 (off2 + k * 32) rfl Y _ (fun w h => h.2) Try.underlying43 rfl Hi2.out ?_
        focus (go_simp; done)
        ((try simp only [Act.put, List.setIfInBounds_toArray, List.set_cons_zero, List.set_cons_succ]); repeat (first | (refine Ord.wpOrd_skip ?_ ?_; (focus (go_simp; (try (intro h; cases h)); done)); simp only [Act.put, List.setIfInBounds_toArray, List.set_cons_zero, List.set_cons_succ]) | (refine Ord.wpOrd_take (v := ?_) ?_ ?_ ?_; rotate_left; (focus (go_simp; done)); (focus (intro w' hSw; (try dsimp only at hSw); go_simp; (try with_reducible rfl); done)); simp only [Act.put, List.setIfInBounds_toArray, List.set_cons_zero, List.set_cons_succ])))
        refine Ord.wpOrd_bin ?_ .neq 43 _ _ _ rfl (.agg X.toArray) (.agg Y.toArray) (.bool false) rfl rfl (fun w' => run_eqGuard_agg w' _ _ _ _ _ _ (by kernel_rfl)) Hq.out ?_
        focus (go_simp; done)
        refine Ord.wpOrd_nil ?_
        go_wp2_with fail
        exact ⟨⟨k + 1, by omega, by go_num, Lib.hid (by rw [Hx.out, Hy.out, Hs.out, Hqe.out trivial]), hB.drew⟩, by simp only [intOf]; omega⟩
    · obtain rfl : k = n := by omega
      have hd1 : decide ((k : Int) < (k : Int)) = false := decide_eq_false (by omega)
      go_wp2_with fail
      go_ret
      refine ⟨ret_b ?_, hB⟩
      have h := Hs.out
      rw [List.take_of_length_le (by have := Hn.out; omega), List.take_of_length_le (by have := Hl.out; omega)] at h
      rw [h]; simp
end Go.Proofs.Ytcjabfdjngekfaa.Ids
set_option linter.unusedVariables false
set_option linter.unusedSimpArgs false
namespace Go.Proofs.Ytcjabfdjngekfaa.Ids
open Go.RowKit Go.Proofs.Ytcjabfdjngekfaa.Wd Go.Proofs.Ytcjabfdjngekfaa.Use Go.Proofs.Ytcjabfdjngekfaa.Lay

def zid' : Id := List.replicate 32 0
theorem elR : El Try.prog 103 43 (.agg (bs zid').toArray) 32 32 := ⟨Try.underlying103, by kernel_rfl, rfl, by decide, by decide⟩
/-- a row of one element of several cells -/
theorem wp_build_one {P : Program} {t e : TypeId} {z : Value} {size bytes : Nat} (E : El P t e z size bytes) (hsm : size ≤ 16777216) {o : Oper} {a : Act} {w : World} {K : Act → World → Prop} {Q : Exit → Act → World → Prop} (x : Operand) (ho : o.op = .buildSlice t 1 #[(0, x)]) (X : List Value) (hx : a.eval x = .agg X.toArray) (hX : X.length = size)
    (h : K (a.put o.dst (.slice (some ⟨w.heap.size, 0, none⟩) 1 1)) (w.alloc (.cells X.toArray e))) : o.wp P a w K Q := by
  obtain ⟨ht, hinfo, hz, hs0, -⟩ := E
  obtain ⟨i0, hi, hzz⟩ := Option.map_eq_some_iff.1 hinfo
  simp only [Prod.mk.injEq] at hzz
  obtain ⟨hz0, hz1, -⟩ := hzz
  have hf := Great.fill_whole (s := size) hs0 [Value.agg X.toArray] ((Array.range (1 * i0.size)).map (z.cells[· % z.cells.size]!)) (by intro v hv; simp at hv; subst hv; simp [Value.cells, hX]) (by simp [hz1])
  refine wp_buildSlice t e 1 #[(0, x)] ho X.toArray i0 _ ht hi hz0 (by rw [hz1]; omega) (by rw [hz1]; omega) ?_ h
  have hfl : ([Value.agg X.toArray].flatMap fun v => v.cells.toList) = X := by simp [Value.cells]
  rw [hfl] at hf
  rw [hz1] at hf ⊢
  rw [show (#[(0, x)].map fun (i, x) => (i, a.eval x)).toList = (([Value.agg X.toArray].zipIdx 0).map fun x => (x.2, x.1)) by simp [hx]]
  exact hf
theorem Rd_takeN {w : World} {sz : Nat} {A : Option Addr} {n c : Nat} {xs : List Value} (h : Rd w sz (.slice A n c) n xs) (m : Nat) (hm : m ≤ n) : Rd w sz (.slice A m c) m (xs.take (m * sz)) := by
  obtain ⟨hl, A', c', hA, h1, h2, h3⟩ := h
  injection hA with hA1 _ hA3
  subst hA1 hA3
  have hmn : m * sz ≤ n * sz := Nat.mul_le_mul_right _ hm
  refine ⟨by rw [List.length_take]; omega, _, _, rfl, by omega, h2, fun h0 => ?_⟩
  obtain ⟨b, off, rfl, hc⟩ := h3 (by omega)
  refine ⟨b, off, rfl, fun i hi => ?_⟩
  rw [hc i (by omega), List.getElem?_take, if_pos hi]
theorem Rd_dropN {w : World} {sz : Nat} {A A' : Option Addr} {n c : Nat} {xs : List Value} (h : Rd w sz (.slice A n c) n xs) (m : Nat) (hm : m ≤ n) (ha : m < n → ∀ b o, A = some ⟨b, o, none⟩ → A' = some ⟨b, o + m * sz, none⟩) : Rd w sz (.slice A' (n - m) (c - m)) (n - m) (xs.drop (m * sz)) := by
  obtain ⟨hl, A1, c1, hA, h1, h2, h3⟩ := h
  injection hA with hA1 _ hA3
  subst hA1 hA3
  refine ⟨by rw [List.length_drop, hl, Nat.sub_mul], _, _, rfl, by omega, by omega, fun h0 => ?_⟩
  obtain ⟨b, off, rfl, hc⟩ := h3 (by omega)
  refine ⟨b, off + m * sz, ha (by omega) b off rfl, fun i hi => ?_⟩
  rw [Nat.add_assoc, hc (m * sz + i) (by rw [Nat.sub_mul] at hi; omega), List.getElem?_drop]
theorem ix_take {l : List Id} (h : W32 l) (k : Nat) : ix (l.take k) = (ix l).take (k * 32) := by
  induction l generalizing k with
  | nil => simp [ix, bs]
  | cons i l ih =>
    have hi := h i List.mem_cons_self
    have hl : W32 l := fun j hj => h j (List.mem_cons_of_mem _ hj)
    cases k with
    | zero => simp [ix, bs]
    | succ k =>
      have := ih hl k
      simp only [ix, List.take_succ_cons, List.flatten_cons, bs_append] at this ⊢
      rw [this, List.take_append, List.take_of_length_le (l := bs i) (by rw [bs_length, hi]; omega), bs_length, hi, show (k + 1) * 32 - 32 = k * 32 by omega]
theorem ix_drop {l : List Id} (h : W32 l) (k : Nat) : ix (l.drop k) = (ix l).drop (k * 32) := by
  induction l generalizing k with
  | nil => simp [ix, bs]
  | cons i l ih =>
    have hi := h i List.mem_cons_self
    have hl : W32 l := fun j hj => h j (List.mem_cons_of_mem _ hj)
    cases k with
    | zero => simp [ix, bs]
    | succ k =>
      have := ih hl k
      simp only [ix, List.drop_succ_cons, List.flatten_cons, bs_append] at this ⊢
      rw [this, List.drop_append, List.drop_of_length_le (l := bs i) (by rw [bs_length, hi]; omega), bs_length, hi, show (k + 1) * 32 - 32 = k * 32 by omega]; rfl
theorem ix_app (l m : List Id) : ix (l ++ m) = ix l ++ ix m := by simp [ix, bs_append]
theorem ix_cons (x : Id) (m : List Id) : ix (x :: m) = bs x ++ ix m := by simp [ix, bs_append]
theorem ix_one1 (l : List Id) : ∀ v ∈ ix l, v.oneCell' = true := bs_oneCell _
set_option maxRecDepth 100000 in
set_option maxHeartbeats 16000000 in
theorem rWith_any (l : List Id) (x : Id) (h32 : W32 l) (hx : x.length = 32) (hn : l.length ≤ 1000000) (v : Value) (w : World) (hv : Rd w 32 v l.length (ix l)) :
    Calls Try.prog 162 #[v, .agg (bs x).toArray] w fun r w' => ∃ v', r = .returned v' ∧ Rd w' 32 v' (rwith l x).length (ix (rwith l x)) ∧ Below w.heap.size w w' := by
  obtain ⟨W0, hW0⟩ : ∃ W, W = w.alloc (.cells (bs x).toArray 43) := ⟨_, rfl⟩
  have hb0 : Below w.heap.size w W0 := by rw [hW0]; exact below_one _ _
  have hhas := rHas_any l x h32 hx v W0 (hv.below hb0)
  obtain ⟨A, c, rfl, hc1, hc2, -⟩ := hv.slice_
  unfold maxLen at hc2
  obtain ⟨g0, hg0⟩ : ∃ g, g = w.heap.size := ⟨_, rfl⟩
  have Hra := Lib.hid (show ∀ W, Below W0.heap.size W0 W → W.rangeAt g0 0 (bs x) from fun W h => by rw [hW0] at h; rw [hg0]; exact range_all (t := 43) (blk_below (heap_alloc_new _ _) h))
  have hle := fun W k (hk : k < l.length) => rLess_any (l.getD k []) x (h32.get k hk) hx W
  have HW0 := Lib.hid hW0
  have Hv := Lib.hid hv
  have H32 := Lib.hid h32
  have Hle := Lib.hid hle
  have Hhas := Lib.hid hhas
  have Hwi := Lib.hid (show rwith l x = if x ∈ l then l else rins x l from rfl)
  have Hat := Lib.hid (fun k => @rins_at x l k)
  obtain ⟨X, hX⟩ : ∃ X, X = bs x := ⟨_, rfl⟩
  have HX := Lib.hid hX
  have Hone := Lib.hid (show ∀ u ∈ X, u.oneCell' = true by rw [hX]; exact bs_oneCell _)
  have HXl := Lib.hid (show X.length = 32 by rw [hX, bs_length, hx])
  have Hix := Lib.hid (show (Try.prog.info? 43).map (·.size) = some X.length by rw [HXl.out]; rfl)
  rw [← hX] at Hra Hle Hhas HW0
  rw [← hX]
  obtain ⟨n, hn'⟩ : ∃ n, n = l.length := ⟨_, rfl⟩
  rw [← hn'] at Hv hc1 Hhas hn
  rw [← hn']
  have Hn := Lib.hid hn'
  clear hW0 hv h32 hle hhas hX hn' hx
  go_enter Try.func162, Try.ntmps162
  go_upto_region 1 with fail
  rw [← HW0.out, ← hg0]
  have hb0' : Below g0 w W0 := by rw [hg0]; exact hb0
  have Hg0 := Lib.hid hg0
  clear hg0
  by_cases hmem : x ∈ l
  · have Hr := Lib.hid (show rwith l x = l by rw [Hwi.out, if_pos hmem])
    rw [decide_eq_true hmem] at Hhas
    go_wp2_with (first
      | (refine wpList_load_mid rfl 43 _ rfl g0 0 rfl X _ (Hra.out _ (Below.refl _ _)) Try.underlying43 rfl Hix.out ?_)
      | (go_at_call 177; refine Hhas.out.mono ?_; rintro r w2 ⟨rfl, hb2⟩))
    go_ret
    exact ⟨_, rfl, by rw [Hr.out, ← Hn.out]; exact Hv.out.below (below_go hb2 hb0), below_go hb2 hb0⟩
  have Hr := Lib.hid (show rwith l x = rins x l by rw [Hwi.out, if_neg hmem])
  rw [decide_eq_false hmem] at Hhas
  go_wp2_with (first
    | (refine wpList_load_mid rfl 43 _ rfl g0 0 rfl X _ (Hra.out _ (Below.refl _ _)) Try.underlying43 rfl Hix.out ?_)
    | (go_at_call 177; refine Hhas.out.mono ?_; rintro r w2 ⟨rfl, hb2⟩))
  clear hmem
  go_loopw [5] (fun i_ wr => ∃ k : Nat, k ≤ n ∧ i_ = .int .i64 (k : Int) ∧ Hid (∀ j, j < k → lt (l.getD j []) x = true) ∧ Below W0.heap.size W0 wr) (fun i_ _ => n - (intOf i_).toNat)
  case atStart => exact ⟨0, Nat.zero_le _, rfl, Lib.hid (fun j hj => absurd hj (Nat.not_lt_zero _)), hb2⟩
  case round =>
    obtain ⟨k, hkl, rfl, Hlo, hB⟩ := hrel
    have i0 : (0 : Int) ≤ (k : Int) := by omega
    have i1 : (k : Int) ≤ (n : Int) := by omega
    have i2 : (k : Int) ≤ (c : Int) := by omega
    have i3 : k ≤ n := by omega
    have i4 : k ≤ c := by omega
    have hx0 := Hra.out wr hB
    by_cases hkn : k < n
    rotate_left
    · have hd1 : decide ((k : Int) < (n : Int)) = false := decide_eq_false (by omega)
      have Hend := Lib.hid (show k = l.length ∨ lt (l.getD k []) x = false from .inl (by have := Hn.out; omega))
      have hkn' : n = k := by omega
      have Hkn := Lib.hid hkn'
      clear hkn'
      go_upto_region 4 with fail
      (refine Ord.wp_region_ord [(false, 0), (false, 1), (false, 2), (false, 3), (false, 4), (false, 5), (false, 6), (false, 7), (false, 8), (false, 9), (true, 10), (false, 11)] (fun W => True) (by kernel_rfl) (by kernel_rfl) (by kernel_rfl) (by kernel_rfl) (by trivial) ?_; simp only [Ord.ordOps, List.filterMap_cons, List.filterMap_nil, List.getElem?_toArray, List.getElem?_cons_succ, List.getElem?_cons_zero, Option.map_some]; repeat (first | (refine Ord.wpOrd_skip ?_ ?_; (focus (go_simp; (try (intro h; cases h)); done)); simp only [Act.put, List.setIfInBounds_toArray, List.set_cons_zero, List.set_cons_succ]) | (refine Ord.wpOrd_take (v := ?_) ?_ ?_ ?_; rotate_left; (focus (go_simp; done)); (focus (intro w' hSw; (try dsimp only at hSw); go_simp; (try with_reducible rfl); done)); simp only [Act.put, List.setIfInBounds_toArray, List.set_cons_zero, List.set_cons_succ])))
      refine Ord.wpOrd_nil ?_
      go_upto_region 6 with fail
      have Hd := Lib.hid (fun W (h : Below W0.heap.size W0 W) => Rd_dropN (A' := if c = k then A else Option.map (fun x => x.add (k * 32)) A) (Hv.out.below (below_go h hb0)) k i3 (fun h => absurd h (by have := Hkn.out; omega)))
      obtain ⟨WX, hWX⟩ : ∃ W, W = wr.drew := ⟨_, rfl⟩
      have hBX := hB.drew
      rw [← hWX] at hBX
      rw [← hWX]
      have Ht := Lib.hid (fun W (h : Below W0.heap.size W0 W) => Rd_takeN (Hv.out.below (below_go h hb0)) k i3)
      have hins := Hat.out k (by have := Hn.out; omega) Hlo.out Hend.out
      obtain ⟨TK, hTK⟩ : ∃ x, x = (ix l).take (k * 32) := ⟨_, rfl⟩
      obtain ⟨DK, hDK⟩ : ∃ x, x = (ix l).drop (k * 32) := ⟨_, rfl⟩
      have Hfin := Lib.hid (show k + 1 + (n - k) = (rwith l x).length ∧ ix (rwith l x) = TK ++ X ++ DK by
        rw [Hr.out, rins_len]
        refine ⟨by have := Hn.out; omega, ?_⟩
        rw [hins, ix_app, ix_cons, hTK, hDK, ix_take H32.out, ix_drop H32.out, HX.out, List.append_assoc])
      have HTone := Lib.hid (show ∀ u ∈ TK, u.oneCell' = true by rw [hTK]; exact fun u hu => ix_one1 l u (List.mem_of_mem_take hu))
      have HDone := Lib.hid (show ∀ u ∈ DK, u.oneCell' = true by rw [hDK]; exact fun u hu => ix_one1 l u (List.mem_of_mem_drop hu))
      rw [← hTK] at Ht
      rw [← hDK] at Hd
      have Hd2 := Hd
      clear hWX hins hTK hDK
      (refine Ord.wp_region_tree (Ord.OT.of [(false, 1), (false, 2), (false, 3), (false, 5), (false, 8), (false, 9), (false, 10)] (Ord.OT.two 0 (Ord.OT.of [] (Ord.OT.two 4 (Ord.OT.of [(true, 6), (true, 7), (true, 11), (false, 12)] Ord.OT.nil) 6 (Ord.OT.of [(true, 4), (true, 7), (true, 11), (false, 12)] Ord.OT.nil))) 6 (Ord.OT.of [(true, 0), (true, 4), (true, 7), (true, 11), (false, 12)] Ord.OT.nil))) (fun W => W.rangeAt g0 0 X) (by kernel_rfl) (by kernel_rfl) (by kernel_rfl) (by kernel_rfl) (by exact Hra.out _ hBX.drew) ?_; simp only [Ord.OT.of, Ord.OT.opers, List.getElem?_toArray, List.getElem?_cons_succ, List.getElem?_cons_zero]; repeat (first | (refine Ord.wpT_skip ?_ ?_; (focus (go_simp; (try (intro h; cases h)); done)); simp only [Act.put, List.setIfInBounds_toArray, List.set_cons_zero, List.set_cons_succ]) | (refine Ord.wpT_take (v := ?_) ?_ ?_ ?_; rotate_left; (focus (go_simp; done)); (focus (intro w' hSw; (try dsimp only at hSw); go_simp; (try with_reducible rfl); done)); simp only [Act.put, List.setIfInBounds_toArray, List.set_cons_zero, List.set_cons_succ])))
      refine Ord.wpT_load_mid ?_ 43 _ rfl g0 0 rfl X _ (fun w h => h) Try.underlying43 rfl Hix.out ?_
      focus (go_simp; done)
      ((try simp only [Act.put, List.setIfInBounds_toArray, List.set_cons_zero, List.set_cons_succ]); repeat (first | (refine Ord.wpT_skip ?_ ?_; (focus (go_simp; (try (intro h; cases h)); done)); simp only [Act.put, List.setIfInBounds_toArray, List.set_cons_zero, List.set_cons_succ]) | (refine Ord.wpT_take (v := ?_) ?_ ?_ ?_; rotate_left; (focus (go_simp; done)); (focus (intro w' hSw; (try dsimp only at hSw); go_simp; (try with_reducible rfl); done)); simp only [Act.put, List.setIfInBounds_toArray, List.set_cons_zero, List.set_cons_succ])))
      refine Ord.wpT_two ?_ ?_
      · (refine Ord.wpT_call ?_ (fun K hK => ?_); (focus (go_simp; done)); go_simp)
        have hB4 : Below WX.heap.size WX (WX.alloc (.cells #[] 43)).drew := (below_one _ _).drew
        (refine hK _ _ (by exact Hra.out _ (below_go hB4 hBX)) ?_; clear hK K; (try simp only [Act.put, List.setIfInBounds_toArray, List.set_cons_zero, List.set_cons_succ]); repeat (first | (refine Ord.wpT_skip ?_ ?_; (focus (go_simp; (try (intro h; cases h)); done)); simp only [Act.put, List.setIfInBounds_toArray, List.set_cons_zero, List.set_cons_succ]) | (refine Ord.wpT_take (v := ?_) ?_ ?_ ?_; rotate_left; (focus (go_simp; done)); (focus (intro w' hSw; (try dsimp only at hSw); go_simp; (try with_reducible rfl); done)); simp only [Act.put, List.setIfInBounds_toArray, List.set_cons_zero, List.set_cons_succ])))
        have HO4 := Lib.hid (own_below (own_empty WX WX.heap.size 43 32 (Nat.le_refl _)) (show Below (WX.alloc (.cells #[] 43)).heap.size (WX.alloc (.cells #[] 43)) (WX.alloc (.cells #[] 43)).drew from (Below.refl _ _).drew))
        refine Ord.wpT_two ?_ ?_
        · refine Ord.wpT_app_row elR ?_ (.tmp 24) (.tmp 27) rfl WX.heap.size (.slice (some ⟨WX.heap.size, 0, none⟩) 0 0) _ 0 k [] TK rfl rfl HTone.out HO4.out (Ht.out _ (below_go hB4 hBX)) hB4.size (by omega) (fun v7 w7 ho7 hg7 hat7 => ?_)
          focus (go_simp; done)
          rw [Nat.zero_add, List.nil_append] at ho7
          have hB7 := hB4.grown hg7 hB4.size (own_base HO4.out)
          refine ⟨Hra.out _ (below_go hB7 hBX), ?_⟩
          have HO6 := Lib.hid ho7
          clear ho7 hg7 hat7
          ((try simp only [Act.put, List.setIfInBounds_toArray, List.set_cons_zero, List.set_cons_succ]); repeat (first | (refine Ord.wpT_skip ?_ ?_; (focus (go_simp; (try (intro h; cases h)); done)); simp only [Act.put, List.setIfInBounds_toArray, List.set_cons_zero, List.set_cons_succ]) | (refine Ord.wpT_take (v := ?_) ?_ ?_ ?_; rotate_left; (focus (go_simp; done)); (focus (intro w' hSw; (try dsimp only at hSw); go_simp; (try with_reducible rfl); done)); simp only [Act.put, List.setIfInBounds_toArray, List.set_cons_zero, List.set_cons_succ])))
          have hB6 := below_go (below_one w7 (.cells X.toArray 43)) hB7
          refine Ord.wpT_call ?_ (fun K hK => ?_)
          focus (go_simp; done)
          refine wp_build_one elR (by decide) _ rfl X rfl HXl.out ?_
          refine hK _ _ (Hra.out _ (below_go hB6 hBX)) ?_
          clear hK K
          ((try simp only [Act.put, List.setIfInBounds_toArray, List.set_cons_zero, List.set_cons_succ]); repeat (first | (refine Ord.wpT_skip ?_ ?_; (focus (go_simp; (try (intro h; cases h)); done)); simp only [Act.put, List.setIfInBounds_toArray, List.set_cons_zero, List.set_cons_succ]) | (refine Ord.wpT_take (v := ?_) ?_ ?_ ?_; rotate_left; (focus (go_simp; done)); (focus (intro w' hSw; (try dsimp only at hSw); go_simp; (try with_reducible rfl); done)); simp only [Act.put, List.setIfInBounds_toArray, List.set_cons_zero, List.set_cons_succ])))
          have HO7 := Lib.hid (own_alloc HO6.out (.cells X.toArray 43))
          have HY7 := Lib.hid (Rd.lit w7 32 1 X 43 (by rw [HXl.out]) (by simp [maxLen]))
          clear HO6 hB7
          have hB7 := hB6
          ((try simp only [Act.put, List.setIfInBounds_toArray, List.set_cons_zero, List.set_cons_succ]); repeat (first | (refine Ord.wpT_skip ?_ ?_; (focus (go_simp; (try (intro h; cases h)); done)); simp only [Act.put, List.setIfInBounds_toArray, List.set_cons_zero, List.set_cons_succ]) | (refine Ord.wpT_take (v := ?_) ?_ ?_ ?_; rotate_left; (focus (go_simp; done)); (focus (intro w' hSw; (try dsimp only at hSw); go_simp; (try with_reducible rfl); done)); simp only [Act.put, List.setIfInBounds_toArray, List.set_cons_zero, List.set_cons_succ])))
          refine Ord.wpT_app_row elR ?_ (.tmp 28) (.tmp 30) rfl WX.heap.size v7 _ k 1 TK X rfl rfl Hone.out HO7.out HY7.out hB7.size (by omega) (fun v8 w8 ho8 hg8 hat8 => ?_)
          focus (go_simp; done)
          have hB8 := hB7.grown hg8 hB7.size (own_base HO7.out)
          refine ⟨Hra.out _ (below_go hB8 hBX), ?_⟩
          have HO8 := Lib.hid ho8
          clear ho8 hg8 hat8 HO7 HY7
          ((try simp only [Act.put, List.setIfInBounds_toArray, List.set_cons_zero, List.set_cons_succ]); repeat (first | (refine Ord.wpT_skip ?_ ?_; (focus (go_simp; (try (intro h; cases h)); done)); simp only [Act.put, List.setIfInBounds_toArray, List.set_cons_zero, List.set_cons_succ]) | (refine Ord.wpT_take (v := ?_) ?_ ?_ ?_; rotate_left; (focus (go_simp; done)); (focus (intro w' hSw; (try dsimp only at hSw); go_simp; (try with_reducible rfl); done)); simp only [Act.put, List.setIfInBounds_toArray, List.set_cons_zero, List.set_cons_succ])))
          refine Ord.wpT_app_row elR ?_ (.tmp 31) (.tmp 34) rfl WX.heap.size v8 _ (k + 1) (n - k) (TK ++ X) DK rfl rfl HDone.out HO8.out (Hd2.out _ (below_go hB8 hBX)) hB8.size (by omega) (fun v9 w9 ho9 hg9 hat9 => ?_)
          focus (go_simp; done)
          have hB9 := hB8.grown hg9 hB8.size (own_base HO8.out)
          refine ⟨Hra.out _ (below_go hB9 hBX), ?_⟩
          have HO9 := Lib.hid ho9
          clear ho9 hg9 hat9 HO8
          ((try simp only [Act.put, List.setIfInBounds_toArray, List.set_cons_zero, List.set_cons_succ]); repeat (first | (refine Ord.wpT_skip ?_ ?_; (focus (go_simp; (try (intro h; cases h)); done)); simp only [Act.put, List.setIfInBounds_toArray, List.set_cons_zero, List.set_cons_succ]) | (refine Ord.wpT_take (v := ?_) ?_ ?_ ?_; rotate_left; (focus (go_simp; done)); (focus (intro w' hSw; (try dsimp only at hSw); go_simp; (try with_reducible rfl); done)); simp only [Act.put, List.setIfInBounds_toArray, List.set_cons_zero, List.set_cons_succ])))
          refine Ord.wpT_nil ?_
          go_wp2_with fail
          all_goals
            go_ret
            refine ⟨v9, rfl, ?_, below_go (below_go hB9 hBX) hb0⟩
            have h := Rd.of_own HO9.out
            rw [Hfin.out.1, ← Hfin.out.2] at h
            exact h
        · have hBB : Below WX.heap.size WX (((WX.alloc (.cells #[] 43)).drew).alloc (.cells X.toArray 43)) := below_go (below_one _ _) (below_one _ _).drew
          refine Ord.wpT_call ?_ (fun K hK => ?_)
          focus (go_simp; done)
          refine wp_build_one elR (by decide) _ rfl X rfl HXl.out ?_
          refine hK _ _ (Hra.out _ (below_go hBB hBX)) ?_
          clear hK K
          ((try simp only [Act.put, List.setIfInBounds_toArray, List.set_cons_zero, List.set_cons_succ]); repeat (first | (refine Ord.wpT_skip ?_ ?_; (focus (go_simp; (try (intro h; cases h)); done)); simp only [Act.put, List.setIfInBounds_toArray, List.set_cons_zero, List.set_cons_succ]) | (refine Ord.wpT_take (v := ?_) ?_ ?_ ?_; rotate_left; (focus (go_simp; done)); (focus (intro w' hSw; (try dsimp only at hSw); go_simp; (try with_reducible rfl); done)); simp only [Act.put, List.setIfInBounds_toArray, List.set_cons_zero, List.set_cons_succ])))
          have HOB := Lib.hid (own_below HO4.out (below_one ((WX.alloc (.cells #[] 43)).drew) (.cells X.toArray 43)))
          have e1 : ((WX.alloc (.cells #[] 43)).drew).heap.size = WX.heap.size + 1 := alloc_size _ _
          have HYB := Lib.hid (show Rd (((WX.alloc (.cells #[] 43)).drew).alloc (.cells X.toArray 43)) 32 (.slice (some ⟨((WX.alloc (.cells #[] 43)).drew).heap.size, 0, none⟩) 1 1) 1 X from Rd.lit ((WX.alloc (.cells #[] 43)).drew) 32 1 X 43 (by rw [HXl.out]) (by simp [maxLen]))
          have E1 := Lib.hid e1
          clear e1
          clear hB4 HO4
          have hB4 := hBB
          have HO4 := HOB
          refine Ord.wpT_app_row elR ?_ (.tmp 24) (.tmp 27) rfl WX.heap.size (.slice (some ⟨WX.heap.size, 0, none⟩) 0 0) _ 0 k [] TK rfl rfl HTone.out HO4.out (Ht.out _ (below_go hB4 hBX)) hB4.size (by omega) (fun v7 w7 ho7 hg7 hat7 => ?_)
          focus (go_simp; done)
          rw [Nat.zero_add, List.nil_append] at ho7
          have hB7 := hB4.grown hg7 hB4.size (own_base HO4.out)
          refine ⟨Hra.out _ (below_go hB7 hBX), ?_⟩
          have HO7 := Lib.hid ho7
          have HY7 := Lib.hid (HYB.out.grown hg7 (fun q hq h => by have h1 : some WX.heap.size = some q := hq; have h2 : some (((WX.alloc (.cells #[] 43)).drew).heap.size) = some q := h; have h3 := E1.out; injection h1 with h1; injection h2 with h2; omega))
          clear ho7 hg7 hat7
          ((try simp only [Act.put, List.setIfInBounds_toArray, List.set_cons_zero, List.set_cons_succ]); repeat (first | (refine Ord.wpT_skip ?_ ?_; (focus (go_simp; (try (intro h; cases h)); done)); simp only [Act.put, List.setIfInBounds_toArray, List.set_cons_zero, List.set_cons_succ]) | (refine Ord.wpT_take (v := ?_) ?_ ?_ ?_; rotate_left; (focus (go_simp; done)); (focus (intro w' hSw; (try dsimp only at hSw); go_simp; (try with_reducible rfl); done)); simp only [Act.put, List.setIfInBounds_toArray, List.set_cons_zero, List.set_cons_succ])))
          refine Ord.wpT_app_row elR ?_ (.tmp 28) (.tmp 30) rfl WX.heap.size v7 _ k 1 TK X rfl rfl Hone.out HO7.out HY7.out hB7.size (by omega) (fun v8 w8 ho8 hg8 hat8 => ?_)
          focus (go_simp; done)
          have hB8 := hB7.grown hg8 hB7.size (own_base HO7.out)
          refine ⟨Hra.out _ (below_go hB8 hBX), ?_⟩
          have HO8 := Lib.hid ho8
          clear ho8 hg8 hat8 HO7 HY7
          ((try simp only [Act.put, List.setIfInBounds_toArray, List.set_cons_zero, List.set_cons_succ]); repeat (first | (refine Ord.wpT_skip ?_ ?_; (focus (go_simp; (try (intro h; cases h)); done)); simp only [Act.put, List.setIfInBounds_toArray, List.set_cons_zero, List.set_cons_succ]) | (refine Ord.wpT_take (v := ?_) ?_ ?_ ?_; rotate_left; (focus (go_simp; done)); (focus (intro w' hSw; (try dsimp only at hSw); go_simp; (try with_reducible rfl); done)); simp only [Act.put, List.setIfInBounds_toArray, List.set_cons_zero, List.set_cons_succ])))
          refine Ord.wpT_app_row elR ?_ (.tmp 31) (.tmp 34) rfl WX.heap.size v8 _ (k + 1) (n - k) (TK ++ X) DK rfl rfl HDone.out HO8.out (Hd2.out _ (below_go hB8 hBX)) hB8.size (by omega) (fun v9 w9 ho9 hg9 hat9 => ?_)
          focus (go_simp; done)
          have hB9 := hB8.grown hg9 hB8.size (own_base HO8.out)
          refine ⟨Hra.out _ (below_go hB9 hBX), ?_⟩
          have HO9 := Lib.hid ho9
          clear ho9 hg9 hat9 HO8
          ((try simp only [Act.put, List.setIfInBounds_toArray, List.set_cons_zero, List.set_cons_succ]); repeat (first | (refine Ord.wpT_skip ?_ ?_; (focus (go_simp; (try (intro h; cases h)); done)); simp only [Act.put, List.setIfInBounds_toArray, List.set_cons_zero, List.set_cons_succ]) | (refine Ord.wpT_take (v := ?_) ?_ ?_ ?_; rotate_left; (focus (go_simp; done)); (focus (intro w' hSw; (try dsimp only at hSw); go_simp; (try with_reducible rfl); done)); simp only [Act.put, List.setIfInBounds_toArray, List.set_cons_zero, List.set_cons_succ])))
          refine Ord.wpT_nil ?_
          go_wp2_with fail
          all_goals
            go_ret
            refine ⟨v9, rfl, ?_, below_go (below_go hB9 hBX) hb0⟩
            have h := Rd.of_own HO9.out
            rw [Hfin.out.1, ← Hfin.out.2] at h
            exact h
      · have hB3 : Below WX.heap.size WX ((WX.drew).alloc (.cells X.toArray 43)) := below_go (below_one _ _) (Below.refl _ _).drew
        refine Ord.wpT_call ?_ (fun K hK => ?_)
        focus (go_simp; done)
        refine wp_build_one elR (by decide) _ rfl X rfl HXl.out ?_
        refine hK _ _ (Hra.out _ (below_go hB3 hBX)) ?_
        clear hK K
        ((try simp only [Act.put, List.setIfInBounds_toArray, List.set_cons_zero, List.set_cons_succ]); repeat (first | (refine Ord.wpT_skip ?_ ?_; (focus (go_simp; (try (intro h; cases h)); done)); simp only [Act.put, List.setIfInBounds_toArray, List.set_cons_zero, List.set_cons_succ]) | (refine Ord.wpT_take (v := ?_) ?_ ?_ ?_; rotate_left; (focus (go_simp; done)); (focus (intro w' hSw; (try dsimp only at hSw); go_simp; (try with_reducible rfl); done)); simp only [Act.put, List.setIfInBounds_toArray, List.set_cons_zero, List.set_cons_succ])))
        (refine Ord.wpT_call ?_ (fun K hK => ?_); (focus (go_simp; done)); go_simp)
        have hB4 : Below WX.heap.size WX (((WX.drew).alloc (.cells X.toArray 43)).alloc (.cells #[] 43)) := below_go (below_one _ _) hB3
        (refine hK _ _ (by exact Hra.out _ (below_go hB4 hBX)) ?_; clear hK K; (try simp only [Act.put, List.setIfInBounds_toArray, List.set_cons_zero, List.set_cons_succ]); repeat (first | (refine Ord.wpT_skip ?_ ?_; (focus (go_simp; (try (intro h; cases h)); done)); simp only [Act.put, List.setIfInBounds_toArray, List.set_cons_zero, List.set_cons_succ]) | (refine Ord.wpT_take (v := ?_) ?_ ?_ ?_; rotate_left; (focus (go_simp; done)); (focus (intro w' hSw; (try dsimp only at hSw); go_simp; (try with_reducible rfl); done)); simp only [Act.put, List.setIfInBounds_toArray, List.set_cons_zero, List.set_cons_succ])))
        have e1 : ((WX.drew).alloc (.cells X.toArray 43)).heap.size = WX.heap.size + 1 := alloc_size _ _
        have HO4 := Lib.hid (show (((WX.drew).alloc (.cells X.toArray 43)).alloc (.cells #[] 43)).ownsRow WX.heap.size 43 32 (.slice (some ⟨WX.heap.size + 1, 0, none⟩) 0 0) 0 [] from by
          have h := own_empty ((WX.drew).alloc (.cells X.toArray 43)) WX.heap.size 43 32 hB3.size
          rw [e1] at h; exact h)
        clear e1
        have HYB := Lib.hid (show Rd (((WX.drew).alloc (.cells X.toArray 43)).alloc (.cells #[] 43)) 32 (.slice (some ⟨WX.heap.size, 0, none⟩) 1 1) 1 X from (Rd.lit WX.drew 32 1 X 43 (by rw [HXl.out]) (by simp [maxLen])).below (below_one _ _))
        refine Ord.wpT_app_row elR ?_ (.tmp 24) (.tmp 27) rfl WX.heap.size (.slice (some ⟨WX.heap.size + 1, 0, none⟩) 0 0) _ 0 k [] TK rfl rfl HTone.out HO4.out (Ht.out _ (below_go hB4 hBX)) hB4.size (by omega) (fun v7 w7 ho7 hg7 hat7 => ?_)
        focus (go_simp; done)
        rw [Nat.zero_add, List.nil_append] at ho7
        have hB7 := hB4.grown hg7 hB4.size (own_base HO4.out)
        refine ⟨Hra.out _ (below_go hB7 hBX), ?_⟩
        have HO7 := Lib.hid ho7
        have HY7 := Lib.hid (HYB.out.grown hg7 (fun q hq h => by have h1 : some (WX.heap.size + 1) = some q := hq; have h2 : some WX.heap.size = some q := h; injection h1 with h1; injection h2 with h2; omega))
        clear ho7 hg7 hat7
        ((try simp only [Act.put, List.setIfInBounds_toArray, List.set_cons_zero, List.set_cons_succ]); repeat (first | (refine Ord.wpT_skip ?_ ?_; (focus (go_simp; (try (intro h; cases h)); done)); simp only [Act.put, List.setIfInBounds_toArray, List.set_cons_zero, List.set_cons_succ]) | (refine Ord.wpT_take (v := ?_) ?_ ?_ ?_; rotate_left; (focus (go_simp; done)); (focus (intro w' hSw; (try dsimp only at hSw); go_simp; (try with_reducible rfl); done)); simp only [Act.put, List.setIfInBounds_toArray, List.set_cons_zero, List.set_cons_succ])))
        refine Ord.wpT_app_row elR ?_ (.tmp 28) (.tmp 30) rfl WX.heap.size v7 _ k 1 TK X rfl rfl Hone.out HO7.out HY7.out hB7.size (by omega) (fun v8 w8 ho8 hg8 hat8 => ?_)
        focus (go_simp; done)
        have hB8 := hB7.grown hg8 hB7.size (own_base HO7.out)
        refine ⟨Hra.out _ (below_go hB8 hBX), ?_⟩
        have HO8 := Lib.hid ho8
        clear ho8 hg8 hat8 HO7 HY7
        ((try simp only [Act.put, List.setIfInBounds_toArray, List.set_cons_zero, List.set_cons_succ]); repeat (first | (refine Ord.wpT_skip ?_ ?_; (focus (go_simp; (try (intro h; cases h)); done)); simp only [Act.put, List.setIfInBounds_toArray, List.set_cons_zero, List.set_cons_succ]) | (refine Ord.wpT_take (v := ?_) ?_ ?_ ?_; rotate_left; (focus (go_simp; done)); (focus (intro w' hSw; (try dsimp only at hSw); go_simp; (try with_reducible rfl); done)); simp only [Act.put, List.setIfInBounds_toArray, List.set_cons_zero, List.set_cons_succ])))
        refine Ord.wpT_app_row elR ?_ (.tmp 31) (.tmp 34) rfl WX.heap.size v8 _ (k + 1) (n - k) (TK ++ X) DK rfl rfl HDone.out HO8.out (Hd2.out _ (below_go hB8 hBX)) hB8.size (by omega) (fun v9 w9 ho9 hg9 hat9 => ?_)
        focus (go_simp; done)
        have hB9 := hB8.grown hg9 hB8.size (own_base HO8.out)
        refine ⟨Hra.out _ (below_go hB9 hBX), ?_⟩
        have HO9 := Lib.hid ho9
        clear ho9 hg9 hat9 HO8
        ((try simp only [Act.put, List.setIfInBounds_toArray, List.set_cons_zero, List.set_cons_succ]); repeat (first | (refine Ord.wpT_skip ?_ ?_; (focus (go_simp; (try (intro h; cases h)); done)); simp only [Act.put, List.setIfInBounds_toArray, List.set_cons_zero, List.set_cons_succ]) | (refine Ord.wpT_take (v := ?_) ?_ ?_ ?_; rotate_left; (focus (go_simp; done)); (focus (intro w' hSw; (try dsimp only at hSw); go_simp; (try with_reducible rfl); done)); simp only [Act.put, List.setIfInBounds_toArray, List.set_cons_zero, List.set_cons_succ])))
        refine Ord.wpT_nil ?_
        go_wp2_with fail
        all_goals
          go_ret
          refine ⟨v9, rfl, ?_, below_go (below_go hB9 hBX) hb0⟩
          have h := Rd.of_own HO9.out
          rw [Hfin.out.1, ← Hfin.out.2] at h
          exact h
    have hd1 : decide ((k : Int) < (n : Int)) = true := decide_eq_true (by omega)
    have hj2 : (k : Int) < (n : Int) := by omega
    obtain ⟨b, off, hA, hr⟩ := ix_at (Hv.out.below (below_go hB hb0)) H32.out Hn.out (by omega)
    subst hA
    have hr1 := hr k hkn
    have hle1 := fun W => Hle.out W k (by have := Hn.out; omega)
    have hyl := H32.out.get k (by have := Hn.out; omega)
    obtain ⟨y, hy⟩ : ∃ y, y = l.getD k [] := ⟨_, rfl⟩
    rw [← hy] at hr1 hle1 hyl
    have Hy := Lib.hid hy
    clear hy
    have Hst := Lib.hid (fun (h : lt y x = true) j (hj : j < k + 1) => show lt (l.getD j []) x = true by
      rcases Nat.lt_or_ge j k with h1 | h1
      · exact Hlo.out j h1
      · obtain rfl : j = k := by omega
        rw [← Hy.out]; exact h)
    obtain ⟨Y, hY⟩ : ∃ Y, Y = bs y := ⟨_, rfl⟩
    have Hiy := Lib.hid (show (Try.prog.info? 43).map (·.size) = some Y.length by rw [hY, bs_length, hyl]; rfl)
    rw [← hY] at hr1 hle1
    clear hr hY hyl
    cases hlt : lt y x with
    | true =>
      rw [hlt] at hle1
      have Hs2 := Lib.hid (Hst.out hlt)
      have Hle1 := Lib.hid hle1
      clear hle1 hlt
      go_upto_region 4 with fail
      (refine Ord.wp_region_ord [(false, 0), (false, 1), (false, 2), (false, 3), (false, 4), (false, 5), (false, 6), (false, 7), (false, 8), (false, 9), (true, 10), (false, 11)] (fun W => W.rangeAt b (off + k * 32) Y ∧ W.rangeAt g0 0 X) (by kernel_rfl) (by kernel_rfl) (by kernel_rfl) (by kernel_rfl) (by exact ⟨hr1, hx0⟩) ?_; simp only [Ord.ordOps, List.filterMap_cons, List.filterMap_nil, List.getElem?_toArray, List.getElem?_cons_succ, List.getElem?_cons_zero, Option.map_some]; repeat (first | (refine Ord.wpOrd_skip ?_ ?_; (focus (go_simp; (try (intro h; cases h)); done)); simp only [Act.put, List.setIfInBounds_toArray, List.set_cons_zero, List.set_cons_succ]) | (refine Ord.wpOrd_take (v := ?_) ?_ ?_ ?_; rotate_left; (focus (go_simp; done)); (focus (intro w' hSw; (try dsimp only at hSw); go_simp; (try with_reducible rfl); done)); simp only [Act.put, List.setIfInBounds_toArray, List.set_cons_zero, List.set_cons_succ])))
      refine Ord.wpOrd_load_mid ?_ 43 _ rfl b (off + k * 32) rfl Y _ (fun w h => h.1) Try.underlying43 rfl Hiy.out ?_
      focus (go_simp; done)
      ((try simp only [Act.put, List.setIfInBounds_toArray, List.set_cons_zero, List.set_cons_succ]); repeat (first | (refine Ord.wpOrd_skip ?_ ?_; (focus (go_simp; (try (intro h; cases h)); done)); simp only [Act.put, List.setIfInBounds_toArray, List.set_cons_zero, List.set_cons_succ]) | (refine Ord.wpOrd_take (v := ?_) ?_ ?_ ?_; rotate_left; (focus (go_simp; done)); (focus (intro w' hSw; (try dsimp only at hSw); go_simp; (try with_reducible rfl); done)); simp only [Act.put, List.setIfInBounds_toArray, List.set_cons_zero, List.set_cons_succ])))
      refine Ord.wpOrd_load_mid ?_ 43 _ rfl g0 0 rfl X _ (fun w h => h.2) Try.underlying43 rfl Hix.out ?_
      focus (go_simp; done)
      ((try simp only [Act.put, List.setIfInBounds_toArray, List.set_cons_zero, List.set_cons_succ]); repeat (first | (refine Ord.wpOrd_skip ?_ ?_; (focus (go_simp; (try (intro h; cases h)); done)); simp only [Act.put, List.setIfInBounds_toArray, List.set_cons_zero, List.set_cons_succ]) | (refine Ord.wpOrd_take (v := ?_) ?_ ?_ ?_; rotate_left; (focus (go_simp; done)); (focus (intro w' hSw; (try dsimp only at hSw); go_simp; (try with_reducible rfl); done)); simp only [Act.put, List.setIfInBounds_toArray, List.set_cons_zero, List.set_cons_succ])))
      (refine Ord.wpOrd_call ?_ (fun K hK => ?_); (focus (go_simp; done)); go_simp)
      go_at_call 78
      refine (Hle1.out _).mono ?_
      rintro r w5 ⟨rfl, hb5⟩
      have hb5' := below_go hb5 (Below.refl wr.heap.size wr).drew
      have hB5 := below_go hb5' hB
      (refine hK _ _ (by exact ⟨fun j u hu => cell_below hb5' (hr1 j u hu), fun j u hu => cell_below hb5' (hx0 j u hu)⟩) ?_; clear hK K; (try simp only [Act.put, List.setIfInBounds_toArray, List.set_cons_zero, List.set_cons_succ]); repeat (first | (refine Ord.wpOrd_skip ?_ ?_; (focus (go_simp; (try (intro h; cases h)); done)); simp only [Act.put, List.setIfInBounds_toArray, List.set_cons_zero, List.set_cons_succ]) | (refine Ord.wpOrd_take (v := ?_) ?_ ?_ ?_; rotate_left; (focus (go_simp; done)); (focus (intro w' hSw; (try dsimp only at hSw); go_simp; (try with_reducible rfl); done)); simp only [Act.put, List.setIfInBounds_toArray, List.set_cons_zero, List.set_cons_succ])))
      refine Ord.wpOrd_nil ?_
      go_wp2_with fail
      exact ⟨⟨k + 1, by omega, by go_num, Hs2, hB5⟩, by simp only [intOf]; omega⟩
    | false =>
      rw [hlt] at hle1
      have Hend := Lib.hid (show k = l.length ∨ lt (l.getD k []) x = false from .inr (by rw [← Hy.out]; exact hlt))
      have hck : ¬ c = k := by omega
      have Hle1 := Lib.hid hle1
      clear hle1 hlt
      go_upto_region 4 with fail
      (refine Ord.wp_region_ord [(false, 0), (false, 1), (false, 2), (false, 3), (false, 4), (false, 5), (false, 6), (false, 7), (false, 8), (false, 9), (true, 10), (false, 11)] (fun W => W.rangeAt b (off + k * 32) Y ∧ W.rangeAt g0 0 X) (by kernel_rfl) (by kernel_rfl) (by kernel_rfl) (by kernel_rfl) (by exact ⟨hr1, hx0⟩) ?_; simp only [Ord.ordOps, List.filterMap_cons, List.filterMap_nil, List.getElem?_toArray, List.getElem?_cons_succ, List.getElem?_cons_zero, Option.map_some]; repeat (first | (refine Ord.wpOrd_skip ?_ ?_; (focus (go_simp; (try (intro h; cases h)); done)); simp only [Act.put, List.setIfInBounds_toArray, List.set_cons_zero, List.set_cons_succ]) | (refine Ord.wpOrd_take (v := ?_) ?_ ?_ ?_; rotate_left; (focus (go_simp; done)); (focus (intro w' hSw; (try dsimp only at hSw); go_simp; (try with_reducible rfl); done)); simp only [Act.put, List.setIfInBounds_toArray, List.set_cons_zero, List.set_cons_succ])))
      refine Ord.wpOrd_load_mid ?_ 43 _ rfl b (off + k * 32) rfl Y _ (fun w h => h.1) Try.underlying43 rfl Hiy.out ?_
      focus (go_simp; done)
      ((try simp only [Act.put, List.setIfInBounds_toArray, List.set_cons_zero, List.set_cons_succ]); repeat (first | (refine Ord.wpOrd_skip ?_ ?_; (focus (go_simp; (try (intro h; cases h)); done)); simp only [Act.put, List.setIfInBounds_toArray, List.set_cons_zero, List.set_cons_succ]) | (refine Ord.wpOrd_take (v := ?_) ?_ ?_ ?_; rotate_left; (focus (go_simp; done)); (focus (intro w' hSw; (try dsimp only at hSw); go_simp; (try with_reducible rfl); done)); simp only [Act.put, List.setIfInBounds_toArray, List.set_cons_zero, List.set_cons_succ])))
      refine Ord.wpOrd_load_mid ?_ 43 _ rfl g0 0 rfl X _ (fun w h => h.2) Try.underlying43 rfl Hix.out ?_
      focus (go_simp; done)
      ((try simp only [Act.put, List.setIfInBounds_toArray, List.set_cons_zero, List.set_cons_succ]); repeat (first | (refine Ord.wpOrd_skip ?_ ?_; (focus (go_simp; (try (intro h; cases h)); done)); simp only [Act.put, List.setIfInBounds_toArray, List.set_cons_zero, List.set_cons_succ]) | (refine Ord.wpOrd_take (v := ?_) ?_ ?_ ?_; rotate_left; (focus (go_simp; done)); (focus (intro w' hSw; (try dsimp only at hSw); go_simp; (try with_reducible rfl); done)); simp only [Act.put, List.setIfInBounds_toArray, List.set_cons_zero, List.set_cons_succ])))
      (refine Ord.wpOrd_call ?_ (fun K hK => ?_); (focus (go_simp; done)); go_simp)
      go_at_call 78
      refine (Hle1.out _).mono ?_
      rintro r w5 ⟨rfl, hb5⟩
      have hb5' := below_go hb5 (Below.refl wr.heap.size wr).drew
      have hB5 := below_go hb5' hB
      (refine hK _ _ (by exact ⟨fun j u hu => cell_below hb5' (hr1 j u hu), fun j u hu => cell_below hb5' (hx0 j u hu)⟩) ?_; clear hK K; (try simp only [Act.put, List.setIfInBounds_toArray, List.set_cons_zero, List.set_cons_succ]); repeat (first | (refine Ord.wpOrd_skip ?_ ?_; (focus (go_simp; (try (intro h; cases h)); done)); simp only [Act.put, List.setIfInBounds_toArray, List.set_cons_zero, List.set_cons_succ]) | (refine Ord.wpOrd_take (v := ?_) ?_ ?_ ?_; rotate_left; (focus (go_simp; done)); (focus (intro w' hSw; (try dsimp only at hSw); go_simp; (try with_reducible rfl); done)); simp only [Act.put, List.setIfInBounds_toArray, List.set_cons_zero, List.set_cons_succ])))
      refine Ord.wpOrd_nil ?_
      go_upto_region 6 with fail
      have Hd := Lib.hid (fun W (h : Below W0.heap.size W0 W) => Rd_dropN (A' := some ⟨b, off + k * 32, none⟩) (Hv.out.below (below_go h hb0)) k i3 (fun _ b' o' h => by injection h with h; injection h with h1 h2; rw [← h1, ← h2]))
      clear hr1
      obtain ⟨WX, hWX⟩ : ∃ W, W = w5 := ⟨_, rfl⟩
      have hBX := hB5
      rw [← hWX] at hBX
      rw [← hWX]
      have Ht := Lib.hid (fun W (h : Below W0.heap.size W0 W) => Rd_takeN (Hv.out.below (below_go h hb0)) k i3)
      have hins := Hat.out k (by have := Hn.out; omega) Hlo.out Hend.out
      obtain ⟨TK, hTK⟩ : ∃ x, x = (ix l).take (k * 32) := ⟨_, rfl⟩
      obtain ⟨DK, hDK⟩ : ∃ x, x = (ix l).drop (k * 32) := ⟨_, rfl⟩
      have Hfin := Lib.hid (show k + 1 + (n - k) = (rwith l x).length ∧ ix (rwith l x) = TK ++ X ++ DK by
        rw [Hr.out, rins_len]
        refine ⟨by have := Hn.out; omega, ?_⟩
        rw [hins, ix_app, ix_cons, hTK, hDK, ix_take H32.out, ix_drop H32.out, HX.out, List.append_assoc])
      have HTone := Lib.hid (show ∀ u ∈ TK, u.oneCell' = true by rw [hTK]; exact fun u hu => ix_one1 l u (List.mem_of_mem_take hu))
      have HDone := Lib.hid (show ∀ u ∈ DK, u.oneCell' = true by rw [hDK]; exact fun u hu => ix_one1 l u (List.mem_of_mem_drop hu))
      rw [← hTK] at Ht
      rw [← hDK] at Hd
      have Hd2 := Hd
      clear hWX hins hTK hDK
      (refine Ord.wp_region_tree (Ord.OT.of [(false, 1), (false, 2), (false, 3), (false, 5), (false, 8), (false, 9), (false, 10)] (Ord.OT.two 0 (Ord.OT.of [] (Ord.OT.two 4 (Ord.OT.of [(true, 6), (true, 7), (true, 11), (false, 12)] Ord.OT.nil) 6 (Ord.OT.of [(true, 4), (true, 7), (true, 11), (false, 12)] Ord.OT.nil))) 6 (Ord.OT.of [(true, 0), (true, 4), (true, 7), (true, 11), (false, 12)] Ord.OT.nil))) (fun W => W.rangeAt g0 0 X) (by kernel_rfl) (by kernel_rfl) (by kernel_rfl) (by kernel_rfl) (by exact Hra.out _ hBX.drew) ?_; simp only [Ord.OT.of, Ord.OT.opers, List.getElem?_toArray, List.getElem?_cons_succ, List.getElem?_cons_zero]; repeat (first | (refine Ord.wpT_skip ?_ ?_; (focus (go_simp; (try (intro h; cases h)); done)); simp only [Act.put, List.setIfInBounds_toArray, List.set_cons_zero, List.set_cons_succ]) | (refine Ord.wpT_take (v := ?_) ?_ ?_ ?_; rotate_left; (focus (go_simp; done)); (focus (intro w' hSw; (try dsimp only at hSw); go_simp; (try with_reducible rfl); done)); simp only [Act.put, List.setIfInBounds_toArray, List.set_cons_zero, List.set_cons_succ])))
      refine Ord.wpT_load_mid ?_ 43 _ rfl g0 0 rfl X _ (fun w h => h) Try.underlying43 rfl Hix.out ?_
      focus (go_simp; done)
      ((try simp only [Act.put, List.setIfInBounds_toArray, List.set_cons_zero, List.set_cons_succ]); repeat (first | (refine Ord.wpT_skip ?_ ?_; (focus (go_simp; (try (intro h; cases h)); done)); simp only [Act.put, List.setIfInBounds_toArray, List.set_cons_zero, List.set_cons_succ]) | (refine Ord.wpT_take (v := ?_) ?_ ?_ ?_; rotate_left; (focus (go_simp; done)); (focus (intro w' hSw; (try dsimp only at hSw); go_simp; (try with_reducible rfl); done)); simp only [Act.put, List.setIfInBounds_toArray, List.set_cons_zero, List.set_cons_succ])))
      refine Ord.wpT_two ?_ ?_
      · (refine Ord.wpT_call ?_ (fun K hK => ?_); (focus (go_simp; done)); go_simp)
        have hB4 : Below WX.heap.size WX (WX.alloc (.cells #[] 43)).drew := (below_one _ _).drew
        (refine hK _ _ (by exact Hra.out _ (below_go hB4 hBX)) ?_; clear hK K; (try simp only [Act.put, List.setIfInBounds_toArray, List.set_cons_zero, List.set_cons_succ]); repeat (first | (refine Ord.wpT_skip ?_ ?_; (focus (go_simp; (try (intro h; cases h)); done)); simp only [Act.put, List.setIfInBounds_toArray, List.set_cons_zero, List.set_cons_succ]) | (refine Ord.wpT_take (v := ?_) ?_ ?_ ?_; rotate_left; (focus (go_simp; done)); (focus (intro w' hSw; (try dsimp only at hSw); go_simp; (try with_reducible rfl); done)); simp only [Act.put, List.setIfInBounds_toArray, List.set_cons_zero, List.set_cons_succ])))
        have HO4 := Lib.hid (own_below (own_empty WX WX.heap.size 43 32 (Nat.le_refl _)) (show Below (WX.alloc (.cells #[] 43)).heap.size (WX.alloc (.cells #[] 43)) (WX.alloc (.cells #[] 43)).drew from (Below.refl _ _).drew))
        refine Ord.wpT_two ?_ ?_
        · refine Ord.wpT_app_row elR ?_ (.tmp 24) (.tmp 27) rfl WX.heap.size (.slice (some ⟨WX.heap.size, 0, none⟩) 0 0) _ 0 k [] TK rfl rfl HTone.out HO4.out (Ht.out _ (below_go hB4 hBX)) hB4.size (by omega) (fun v7 w7 ho7 hg7 hat7 => ?_)
          focus (go_simp; done)
          rw [Nat.zero_add, List.nil_append] at ho7
          have hB7 := hB4.grown hg7 hB4.size (own_base HO4.out)
          refine ⟨Hra.out _ (below_go hB7 hBX), ?_⟩
          have HO6 := Lib.hid ho7
          clear ho7 hg7 hat7
          ((try simp only [Act.put, List.setIfInBounds_toArray, List.set_cons_zero, List.set_cons_succ]); repeat (first | (refine Ord.wpT_skip ?_ ?_; (focus (go_simp; (try (intro h; cases h)); done)); simp only [Act.put, List.setIfInBounds_toArray, List.set_cons_zero, List.set_cons_succ]) | (refine Ord.wpT_take (v := ?_) ?_ ?_ ?_; rotate_left; (focus (go_simp; done)); (focus (intro w' hSw; (try dsimp only at hSw); go_simp; (try with_reducible rfl); done)); simp only [Act.put, List.setIfInBounds_toArray, List.set_cons_zero, List.set_cons_succ])))
          have hB6 := below_go (below_one w7 (.cells X.toArray 43)) hB7
          refine Ord.wpT_call ?_ (fun K hK => ?_)
          focus (go_simp; done)
          refine wp_build_one elR (by decide) _ rfl X rfl HXl.out ?_
          refine hK _ _ (Hra.out _ (below_go hB6 hBX)) ?_
          clear hK K
          ((try simp only [Act.put, List.setIfInBounds_toArray, List.set_cons_zero, List.set_cons_succ]); repeat (first | (refine Ord.wpT_skip ?_ ?_; (focus (go_simp; (try (intro h; cases h)); done)); simp only [Act.put, List.setIfInBounds_toArray, List.set_cons_zero, List.set_cons_succ]) | (refine Ord.wpT_take (v := ?_) ?_ ?_ ?_; rotate_left; (focus (go_simp; done)); (focus (intro w' hSw; (try dsimp only at hSw); go_simp; (try with_reducible rfl); done)); simp only [Act.put, List.setIfInBounds_toArray, List.set_cons_zero, List.set_cons_succ])))
          have HO7 := Lib.hid (own_alloc HO6.out (.cells X.toArray 43))
          have HY7 := Lib.hid (Rd.lit w7 32 1 X 43 (by rw [HXl.out]) (by simp [maxLen]))
          clear HO6 hB7
          have hB7 := hB6
          ((try simp only [Act.put, List.setIfInBounds_toArray, List.set_cons_zero, List.set_cons_succ]); repeat (first | (refine Ord.wpT_skip ?_ ?_; (focus (go_simp; (try (intro h; cases h)); done)); simp only [Act.put, List.setIfInBounds_toArray, List.set_cons_zero, List.set_cons_succ]) | (refine Ord.wpT_take (v := ?_) ?_ ?_ ?_; rotate_left; (focus (go_simp; done)); (focus (intro w' hSw; (try dsimp only at hSw); go_simp; (try with_reducible rfl); done)); simp only [Act.put, List.setIfInBounds_toArray, List.set_cons_zero, List.set_cons_succ])))
          refine Ord.wpT_app_row elR ?_ (.tmp 28) (.tmp 30) rfl WX.heap.size v7 _ k 1 TK X rfl rfl Hone.out HO7.out HY7.out hB7.size (by omega) (fun v8 w8 ho8 hg8 hat8 => ?_)
          focus (go_simp; done)
          have hB8 := hB7.grown hg8 hB7.size (own_base HO7.out)
          refine ⟨Hra.out _ (below_go hB8 hBX), ?_⟩
          have HO8 := Lib.hid ho8
          clear ho8 hg8 hat8 HO7 HY7
          ((try simp only [Act.put, List.setIfInBounds_toArray, List.set_cons_zero, List.set_cons_succ]); repeat (first | (refine Ord.wpT_skip ?_ ?_; (focus (go_simp; (try (intro h; cases h)); done)); simp only [Act.put, List.setIfInBounds_toArray, List.set_cons_zero, List.set_cons_succ]) | (refine Ord.wpT_take (v := ?_) ?_ ?_ ?_; rotate_left; (focus (go_simp; done)); (focus (intro w' hSw; (try dsimp only at hSw); go_simp; (try with_reducible rfl); done)); simp only [Act.put, List.setIfInBounds_toArray, List.set_cons_zero, List.set_cons_succ])))
          refine Ord.wpT_app_row elR ?_ (.tmp 31) (.tmp 34) rfl WX.heap.size v8 _ (k + 1) (n - k) (TK ++ X) DK rfl rfl HDone.out HO8.out (Hd2.out _ (below_go hB8 hBX)) hB8.size (by omega) (fun v9 w9 ho9 hg9 hat9 => ?_)
          focus (go_simp; done)
          have hB9 := hB8.grown hg9 hB8.size (own_base HO8.out)
          refine ⟨Hra.out _ (below_go hB9 hBX), ?_⟩
          have HO9 := Lib.hid ho9
          clear ho9 hg9 hat9 HO8
          ((try simp only [Act.put, List.setIfInBounds_toArray, List.set_cons_zero, List.set_cons_succ]); repeat (first | (refine Ord.wpT_skip ?_ ?_; (focus (go_simp; (try (intro h; cases h)); done)); simp only [Act.put, List.setIfInBounds_toArray, List.set_cons_zero, List.set_cons_succ]) | (refine Ord.wpT_take (v := ?_) ?_ ?_ ?_; rotate_left; (focus (go_simp; done)); (focus (intro w' hSw; (try dsimp only at hSw); go_simp; (try with_reducible rfl); done)); simp only [Act.put, List.setIfInBounds_toArray, List.set_cons_zero, List.set_cons_succ])))
          refine Ord.wpT_nil ?_
          go_wp2_with fail
          all_goals
            go_ret
            refine ⟨v9, rfl, ?_, below_go (below_go hB9 hBX) hb0⟩
            have h := Rd.of_own HO9.out
            rw [Hfin.out.1, ← Hfin.out.2] at h
            exact h
        · have hBB : Below WX.heap.size WX (((WX.alloc (.cells #[] 43)).drew).alloc (.cells X.toArray 43)) := below_go (below_one _ _) (below_one _ _).drew
          refine Ord.wpT_call ?_ (fun K hK => ?_)
          focus (go_simp; done)
          refine wp_build_one elR (by decide) _ rfl X rfl HXl.out ?_
          refine hK _ _ (Hra.out _ (below_go hBB hBX)) ?_
          clear hK K
          ((try simp only [Act.put, List.setIfInBounds_toArray, List.set_cons_zero, List.set_cons_succ]); repeat (first | (refine Ord.wpT_skip ?_ ?_; (focus (go_simp; (try (intro h; cases h)); done)); simp only [Act.put, List.setIfInBounds_toArray, List.set_cons_zero, List.set_cons_succ]) | (refine Ord.wpT_take (v := ?_) ?_ ?_ ?_; rotate_left; (focus (go_simp; done)); (focus (intro w' hSw; (try dsimp only at hSw); go_simp; (try with_reducible rfl); done)); simp only [Act.put, List.setIfInBounds_toArray, List.set_cons_zero, List.set_cons_succ])))
          have HOB := Lib.hid (own_below HO4.out (below_one ((WX.alloc (.cells #[] 43)).drew) (.cells X.toArray 43)))
          have e1 : ((WX.alloc (.cells #[] 43)).drew).heap.size = WX.heap.size + 1 := alloc_size _ _
          have HYB := Lib.hid (show Rd (((WX.alloc (.cells #[] 43)).drew).alloc (.cells X.toArray 43)) 32 (.slice (some ⟨((WX.alloc (.cells #[] 43)).drew).heap.size, 0, none⟩) 1 1) 1 X from Rd.lit ((WX.alloc (.cells #[] 43)).drew) 32 1 X 43 (by rw [HXl.out]) (by simp [maxLen]))
          have E1 := Lib.hid e1
          clear e1
          clear hB4 HO4
          have hB4 := hBB
          have HO4 := HOB
          refine Ord.wpT_app_row elR ?_ (.tmp 24) (.tmp 27) rfl WX.heap.size (.slice (some ⟨WX.heap.size, 0, none⟩) 0 0) _ 0 k [] TK rfl rfl HTone.out HO4.out (Ht.out _ (below_go hB4 hBX)) hB4.size (by omega) (fun v7 w7 ho7 hg7 hat7 => ?_)
          focus (go_simp; done)
          rw [Nat.zero_add, List.nil_append] at ho7
          have hB7 := hB4.grown hg7 hB4.size (own_base HO4.out)
          refine ⟨Hra.out _ (below_go hB7 hBX), ?_⟩
          have HO7 := Lib.hid ho7
          have HY7 := Lib.hid (HYB.out.grown hg7 (fun q hq h => by have h1 : some WX.heap.size = some q := hq; have h2 : some (((WX.alloc (.cells #[] 43)).drew).heap.size) = some q := h; have h3 := E1.out; injection h1 with h1; injection h2 with h2; omega))
          clear ho7 hg7 hat7
          ((try simp only [Act.put, List.setIfInBounds_toArray, List.set_cons_zero, List.set_cons_succ]); repeat (first | (refine Ord.wpT_skip ?_ ?_; (focus (go_simp; (try (intro h; cases h)); done)); simp only [Act.put, List.setIfInBounds_toArray, List.set_cons_zero, List.set_cons_succ]) | (refine Ord.wpT_take (v := ?_) ?_ ?_ ?_; rotate_left; (focus (go_simp; done)); (focus (intro w' hSw; (try dsimp only at hSw); go_simp; (try with_reducible rfl); done)); simp only [Act.put, List.setIfInBounds_toArray, List.set_cons_zero, List.set_cons_succ])))
          refine Ord.wpT_app_row elR ?_ (.tmp 28) (.tmp 30) rfl WX.heap.size v7 _ k 1 TK X rfl rfl Hone.out HO7.out HY7.out hB7.size (by omega) (fun v8 w8 ho8 hg8 hat8 => ?_)
          focus (go_simp; done)
          have hB8 := hB7.grown hg8 hB7.size (own_base HO7.out)
          refine ⟨Hra.out _ (below_go hB8 hBX), ?_⟩
          have HO8 := Lib.hid ho8
          clear ho8 hg8 hat8 HO7 HY7
          ((try simp only [Act.put, List.setIfInBounds_toArray, List.set_cons_zero, List.set_cons_succ]); repeat (first | (refine Ord.wpT_skip ?_ ?_; (focus (go_simp; (try (intro h; cases h)); done)); simp only [Act.put, List.setIfInBounds_toArray, List.set_cons_zero, List.set_cons_succ]) | (refine Ord.wpT_take (v := ?_) ?_ ?_ ?_; rotate_left; (focus (go_simp; done)); (focus (intro w' hSw; (try dsimp only at hSw); go_simp; (try with_reducible rfl); done)); simp only [Act.put, List.setIfInBounds_toArray, List.set_cons_zero, List.set_cons_succ])))
          refine Ord.wpT_app_row elR ?_ (.tmp 31) (.tmp 34) rfl WX.heap.size v8 _ (k + 1) (n - k) (TK ++ X) DK rfl rfl HDone.out HO8.out (Hd2.out _ (below_go hB8 hBX)) hB8.size (by omega) (fun v9 w9 ho9 hg9 hat9 => ?_)
          focus (go_simp; done)
          have hB9 := hB8.grown hg9 hB8.size (own_base HO8.out)
          refine ⟨Hra.out _ (below_go hB9 hBX), ?_⟩
          have HO9 := Lib.hid ho9
          clear ho9 hg9 hat9 HO8
          ((try simp only [Act.put, List.setIfInBounds_toArray, List.set_cons_zero, List.set_cons_succ]); repeat (first | (refine Ord.wpT_skip ?_ ?_; (focus (go_simp; (try (intro h; cases h)); done)); simp only [Act.put, List.setIfInBounds_toArray, List.set_cons_zero, List.set_cons_succ]) | (refine Ord.wpT_take (v := ?_) ?_ ?_ ?_; rotate_left; (focus (go_simp; done)); (focus (intro w' hSw; (try dsimp only at hSw); go_simp; (try with_reducible rfl); done)); simp only [Act.put, List.setIfInBounds_toArray, List.set_cons_zero, List.set_cons_succ])))
          refine Ord.wpT_nil ?_
          go_wp2_with fail
          all_goals
            go_ret
            refine ⟨v9, rfl, ?_, below_go (below_go hB9 hBX) hb0⟩
            have h := Rd.of_own HO9.out
            rw [Hfin.out.1, ← Hfin.out.2] at h
            exact h
      · have hB3 : Below WX.heap.size WX ((WX.drew).alloc (.cells X.toArray 43)) := below_go (below_one _ _) (Below.refl _ _).drew
        refine Ord.wpT_call ?_ (fun K hK => ?_)
        focus (go_simp; done)
        refine wp_build_one elR (by decide) _ rfl X rfl HXl.out ?_
        refine hK _ _ (Hra.out _ (below_go hB3 hBX)) ?_
        clear hK K
        ((try simp only [Act.put, List.setIfInBounds_toArray, List.set_cons_zero, List.set_cons_succ]); repeat (first | (refine Ord.wpT_skip ?_ ?_; (focus (go_simp; (try (intro h; cases h)); done)); simp only [Act.put, List.setIfInBounds_toArray, List.set_cons_zero, List.set_cons_succ]) | (refine Ord.wpT_take (v := ?_) ?_ ?_ ?_; rotate_left; (focus (go_simp; done)); (focus (intro w' hSw; (try dsimp only at hSw); go_simp; (try with_reducible rfl); done)); simp only [Act.put, List.setIfInBounds_toArray, List.set_cons_zero, List.set_cons_succ])))
        (refine Ord.wpT_call ?_ (fun K hK => ?_); (focus (go_simp; done)); go_simp)
        have hB4 : Below WX.heap.size WX (((WX.drew).alloc (.cells X.toArray 43)).alloc (.cells #[] 43)) := below_go (below_one _ _) hB3
        (refine hK _ _ (by exact Hra.out _ (below_go hB4 hBX)) ?_; clear hK K; (try simp only [Act.put, List.setIfInBounds_toArray, List.set_cons_zero, List.set_cons_succ]); repeat (first | (refine Ord.wpT_skip ?_ ?_; (focus (go_simp; (try (intro h; cases h)); done)); simp only [Act.put, List.setIfInBounds_toArray, List.set_cons_zero, List.set_cons_succ]) | (refine Ord.wpT_take (v := ?_) ?_ ?_ ?_; rotate_left; (focus (go_simp; done)); (focus (intro w' hSw; (try dsimp only at hSw); go_simp; (try with_reducible rfl); done)); simp only [Act.put, List.setIfInBounds_toArray, List.set_cons_zero, List.set_cons_succ])))
        have e1 : ((WX.drew).alloc (.cells X.toArray 43)).heap.size = WX.heap.size + 1 := alloc_size _ _
        have HO4 := Lib.hid (show (((WX.drew).alloc (.cells X.toArray 43)).alloc (.cells #[] 43)).ownsRow WX.heap.size 43 32 (.slice (some ⟨WX.heap.size + 1, 0, none⟩) 0 0) 0 [] from by
          have h := own_empty ((WX.drew).alloc (.cells X.toArray 43)) WX.heap.size 43 32 hB3.size
          rw [e1] at h; exact h)
        clear e1
        have HYB := Lib.hid (show Rd (((WX.drew).alloc (.cells X.toArray 43)).alloc (.cells #[] 43)) 32 (.slice (some ⟨WX.heap.size, 0, none⟩) 1 1) 1 X from (Rd.lit WX.drew 32 1 X 43 (by rw [HXl.out]) (by simp [maxLen])).below (below_one _ _))
        refine Ord.wpT_app_row elR ?_ (.tmp 24) (.tmp 27) rfl WX.heap.size (.slice (some ⟨WX.heap.size + 1, 0, none⟩) 0 0) _ 0 k [] TK rfl rfl HTone.out HO4.out (Ht.out _ (below_go hB4 hBX)) hB4.size (by omega) (fun v7 w7 ho7 hg7 hat7 => ?_)
        focus (go_simp; done)
        rw [Nat.zero_add, List.nil_append] at ho7
        have hB7 := hB4.grown hg7 hB4.size (own_base HO4.out)
        refine ⟨Hra.out _ (below_go hB7 hBX), ?_⟩
        have HO7 := Lib.hid ho7
        have HY7 := Lib.hid (HYB.out.grown hg7 (fun q hq h => by have h1 : some (WX.heap.size + 1) = some q := hq; have h2 : some WX.heap.size = some q := h; injection h1 with h1; injection h2 with h2; omega))
        clear ho7 hg7 hat7
        ((try simp only [Act.put, List.setIfInBounds_toArray, List.set_cons_zero, List.set_cons_succ]); repeat (first | (refine Ord.wpT_skip ?_ ?_; (focus (go_simp; (try (intro h; cases h)); done)); simp only [Act.put, List.setIfInBounds_toArray, List.set_cons_zero, List.set_cons_succ]) | (refine Ord.wpT_take (v := ?_) ?_ ?_ ?_; rotate_left; (focus (go_simp; done)); (focus (intro w' hSw; (try dsimp only at hSw); go_simp; (try with_reducible rfl); done)); simp only [Act.put, List.setIfInBounds_toArray, List.set_cons_zero, List.set_cons_succ])))
        refine Ord.wpT_app_row elR ?_ (.tmp 28) (.tmp 30) rfl WX.heap.size v7 _ k 1 TK X rfl rfl Hone.out HO7.out HY7.out hB7.size (by omega) (fun v8 w8 ho8 hg8 hat8 => ?_)
        focus (go_simp; done)
        have hB8 := hB7.grown hg8 hB7.size (own_base HO7.out)
        refine ⟨Hra.out _ (below_go hB8 hBX), ?_⟩
        have HO8 := Lib.hid ho8
        clear ho8 hg8 hat8 HO7 HY7
        ((try simp only [Act.put, List.setIfInBounds_toArray, List.set_cons_zero, List.set_cons_succ]); repeat (first | (refine Ord.wpT_skip ?_ ?_; (focus (go_simp; (try (intro h; cases h)); done)); simp only [Act.put, List.setIfInBounds_toArray, List.set_cons_zero, List.set_cons_succ]) | (refine Ord.wpT_take (v := ?_) ?_ ?_ ?_; rotate_left; (focus (go_simp; done)); (focus (intro w' hSw; (try dsimp only at hSw); go_simp; (try with_reducible rfl); done)); simp only [Act.put, List.setIfInBounds_toArray, List.set_cons_zero, List.set_cons_succ])))
        refine Ord.wpT_app_row elR ?_ (.tmp 31) (.tmp 34) rfl WX.heap.size v8 _ (k + 1) (n - k) (TK ++ X) DK rfl rfl HDone.out HO8.out (Hd2.out _ (below_go hB8 hBX)) hB8.size (by omega) (fun v9 w9 ho9 hg9 hat9 => ?_)
        focus (go_simp; done)
        have hB9 := hB8.grown hg9 hB8.size (own_base HO8.out)
        refine ⟨Hra.out _ (below_go hB9 hBX), ?_⟩
        have HO9 := Lib.hid ho9
        clear ho9 hg9 hat9 HO8
        ((try simp only [Act.put, List.setIfInBounds_toArray, List.set_cons_zero, List.set_cons_succ]); repeat (first | (refine Ord.wpT_skip ?_ ?_; (focus (go_simp; (try (intro h; cases h)); done)); simp only [Act.put, List.setIfInBounds_toArray, List.set_cons_zero, List.set_cons_succ]) | (refine Ord.wpT_take (v := ?_) ?_ ?_ ?_; rotate_left; (focus (go_simp; done)); (focus (intro w' hSw; (try dsimp only at hSw); go_simp; (try with_reducible rfl); done)); simp only [Act.put, List.setIfInBounds_toArray, List.set_cons_zero, List.set_cons_succ])))
        refine Ord.wpT_nil ?_
        go_wp2_with fail
        all_goals
          go_ret
          refine ⟨v9, rfl, ?_, below_go (below_go hB9 hBX) hb0⟩
          have h := Rd.of_own HO9.out
          rw [Hfin.out.1, ← Hfin.out.2] at h
          exact h
end Go.Proofs.Ytcjabfdjngekfaa.Ids
set_option linter.unusedVariables false
set_option linter.unusedSimpArgs false
namespace Go.Proofs.Ytcjabfdjngekfaa.Ids
open Go.RowKit Go.Proofs.Ytcjabfdjngekfaa.Wd Go.Proofs.Ytcjabfdjngekfaa.Use Go.Proofs.Ytcjabfdjngekfaa.Lay

theorem W32.take {l : List Id} (h : W32 l) (k : Nat) : W32 (l.take k) := fun i hi => h i (List.mem_of_mem_take hi)
theorem rof_take_w {l : List Id} (h : W32 l) (k : Nat) : W32 (rof (l.take k)) := rof_w _ _ W32.nil (h.take k)
theorem rof_take_len (l : List Id) (k : Nat) : (rof (l.take k)).length ≤ k := by
  have := rof_len (l.take k) []
  rw [List.length_take] at this
  simp only [List.length_nil, Nat.zero_add] at this
  unfold rof; omega
set_option maxRecDepth 100000 in
set_option maxHeartbeats 8000000 in
theorem rOf_any (l : List Id) (h32 : W32 l) (hn : l.length ≤ 100000) (v : Value) (w : World) (hv : Rd w 32 v l.length (ix l)) :
    Calls Try.prog 128 #[v] w fun r w' => ∃ v', r = .returned v' ∧ Rd w' 32 v' (rof l).length (ix (rof l)) ∧ Below w.heap.size w w' := by
  obtain ⟨A, c, rfl, hc1, hc2, -⟩ := hv.slice_
  unfold maxLen at hc2
  have Hv := Lib.hid hv
  have H32 := Lib.hid h32
  obtain ⟨n, hn'⟩ : ∃ n, n = l.length := ⟨_, rfl⟩
  rw [← hn'] at Hv hc1 hn ⊢
  have Hn := Lib.hid hn'
  clear hv h32 hn'
  go_enter Try.func128, Try.ntmps128
  go_wp2_with fail
  go_loopw [3, 4] (fun o_ i_ wr => ∃ (k m : Nat) (Ao : Option Addr) (co : Nat), k ≤ n ∧ i_ = .int .i64 (k : Int) ∧ o_ = .slice Ao m co ∧ m ≤ k ∧ Hid ((rof (l.take k)).length = m) ∧ Hid (Rd wr 32 (.slice Ao m co) m (ix (rof (l.take k)))) ∧ Below w.heap.size w wr) (fun _ i_ _ => n - (intOf i_).toNat)
  case atStart => exact ⟨0, 0, none, 0, Nat.zero_le _, rfl, rfl, Nat.le_refl _, Lib.hid (by simp [rof]), Lib.hid (by simp [rof, ix, bs]; exact Rd.nil _ _), Below.refl _ _⟩
  case round =>
    obtain ⟨k, m, Ao, co, hk, rfl, rfl, hmk, Hm, Hro, hB⟩ := hrel
    by_cases hkn : k < n
    rotate_left
    · obtain rfl : k = n := by omega
      have hd1 : decide ((k : Int) < (k : Int)) = false := decide_eq_false (by omega)
      have Hl := Lib.hid (show l.take k = l from List.take_of_length_le (by rw [← Hn.out]; exact Nat.le_refl _))
      go_wp2_with fail
      go_ret
      refine ⟨_, rfl, ?_, hB⟩
      have h := Hro.out
      have h2 := Hm.out
      rw [Hl.out] at h h2
      rw [h2]; exact h
    have hd1 : decide ((k : Int) < (n : Int)) = true := decide_eq_true (by omega)
    have i0 : (0 : Int) ≤ (k : Int) := by omega
    have i1 : (k : Int) < (n : Int) := by omega
    obtain ⟨b, off, rfl, hr⟩ := ix_at (Hv.out.below hB) H32.out Hn.out (by omega)
    have hr1 := hr k hkn
    have hyl := H32.out.get k (by have := Hn.out; omega)
    have hst := rof_take l k (by have := Hn.out; omega)
    have hw := fun y (hy : y.length = 32) => rWith_any (rof (l.take k)) y (rof_take_w H32.out k) hy (by have := Hm.out; omega) (.slice Ao m co) wr (by rw [Hm.out]; exact Hro.out)
    have hlen := rof_take_len l (k + 1)
    rw [hst] at hlen
    have hw1 := hw _ hyl
    rw [← hst] at hw1 hlen
    generalize l.getD k [] = y at hr1 hyl hw1
    obtain ⟨Y, hY⟩ : ∃ Y, Y = bs y := ⟨_, rfl⟩
    have Hiy := Lib.hid (show (Try.prog.info? 43).map (·.size) = some Y.length by rw [hY, bs_length, hyl]; rfl)
    rw [← hY] at hr1 hw1
    obtain ⟨m', hm'⟩ : ∃ m', m' = (rof (l.take (k + 1))).length := ⟨_, rfl⟩
    rw [← hm'] at hw1 hlen
    have Hw1 := Lib.hid hw1
    have Hm' := Lib.hid hm'.symm
    have Hr1 := Lib.hid hr1
    clear hr hY hyl hst hw hw1 hm' hr1
    go_wp2_with (first
      | (refine wpList_load_mid rfl 43 _ rfl b (off + k * 32) rfl Y _ Hr1.out Try.underlying43 rfl Hiy.out ?_)
      | (go_at_call 162; refine Hw1.out.mono ?_; rintro r w2 ⟨v2, rfl, hr2, hb2⟩; obtain ⟨A2, c2, rfl, -, -, -⟩ := hr2.slice_; have Hr2 := Lib.hid hr2; clear hr2))
    exact ⟨⟨k + 1, m', A2, c2, by omega, by go_num, rfl, hlen, Hm', Hr2, below_go hb2 hB⟩, by simp only [intOf]; omega⟩
set_option maxRecDepth 100000 in
set_option maxHeartbeats 8000000 in
theorem Own_any (l : List Id) (h32 : W32 l) (hn : l.length ≤ 100000) (v : Value) (w : World) (hv : Rd w 32 v l.length (ix l)) :
    Calls Try.prog 126 #[v] w fun r w' => ∃ v', r = .returned v' ∧ w'.ownsRow w.heap.size 43 32 v' l.length (ix l) ∧ Below w.heap.size w w' := by
  obtain ⟨A, c, rfl, hc1, hc2, -⟩ := hv.slice_
  unfold maxLen at hc2
  have Hv := Lib.hid hv
  have H32 := Lib.hid h32
  obtain ⟨n, hn'⟩ : ∃ n, n = l.length := ⟨_, rfl⟩
  rw [← hn'] at Hv hc1 hn ⊢
  have Hn := Lib.hid hn'
  clear hv h32 hn'
  go_enter Try.func126, Try.ntmps126
  go_wp2_with fail
  go_loopw [3, 4] (fun o_ i_ wr => ∃ (k : Nat) (Ao : Option Addr) (co : Nat), k ≤ n ∧ i_ = .int .i64 (k : Int) ∧ o_ = .slice Ao k co ∧ Hid (wr.ownsRow w.heap.size 43 32 (.slice Ao k co) k (ix (l.take k))) ∧ Below w.heap.size w wr) (fun _ i_ _ => n - (intOf i_).toNat)
  case atStart => exact ⟨0, none, 0, Nat.zero_le _, rfl, rfl, Lib.hid (by simp [ix, bs]; exact own_nil _ _ _ _), Below.refl _ _⟩
  case round =>
    obtain ⟨k, Ao, co, hk, rfl, rfl, Ho, hB⟩ := hrel
    by_cases hkn : k < n
    rotate_left
    · obtain rfl : k = n := by omega
      have hd1 : decide ((k : Int) < (k : Int)) = false := decide_eq_false (by omega)
      have Hl := Lib.hid (show l.take k = l from List.take_of_length_le (by rw [← Hn.out]; exact Nat.le_refl _))
      go_wp2_with fail
      go_ret
      refine ⟨_, rfl, ?_, hB⟩
      have h := Ho.out
      rw [Hl.out] at h
      exact h
    have hd1 : decide ((k : Int) < (n : Int)) = true := decide_eq_true (by omega)
    have i0 : (0 : Int) ≤ (k : Int) := by omega
    have i1 : (k : Int) < (n : Int) := by omega
    obtain ⟨b, off, rfl, hr⟩ := ix_at (Hv.out.below hB) H32.out Hn.out (by omega)
    have hr1 := hr k hkn
    have hyl := H32.out.get k (by have := Hn.out; omega)
    have hst : ix (l.take (k + 1)) = ix (l.take k) ++ bs (l.getD k []) := by
      rw [List.take_succ_eq_append_getElem (by have := Hn.out; omega), List.getD_eq_getElem?_getD, List.getElem?_eq_getElem (by have := Hn.out; omega), ix_app]; simp [ix]
    generalize l.getD k [] = y at hr1 hyl hst
    obtain ⟨Y, hY⟩ : ∃ Y, Y = bs y := ⟨_, rfl⟩
    have Hiy := Lib.hid (show (Try.prog.info? 44).map (·.size) = some Y.length by rw [hY, bs_length, hyl]; rfl)
    have HYl := Lib.hid (show Y.length = 32 by rw [hY, bs_length, hyl])
    have Hone := Lib.hid (show ∀ u ∈ Y, u.oneCell' = true by rw [hY]; exact bs_oneCell _)
    rw [← hY] at hr1 hst
    have Hr1 := Lib.hid hr1
    have Hst := Lib.hid hst
    clear hr hY hyl hr1 hst
    go_wp2_with (first
      | (refine wpList_load_mid rfl 44 _ rfl b (off + k * 32) rfl Y _ Hr1.out Try.underlying44 rfl Hiy.out ?_)
      | (refine wpList_plain rfl (fun K hK => wp_build_one elR (by decide) _ rfl Y rfl HYl.out (hK _ _ ?_)))
      | (refine wpList_plain rfl (fun K hK => Ord.wp_app_row elR (.tmp 11) (.tmp 16) rfl w.heap.size (.slice Ao k co) _ k 1 (ix (l.take k)) Y rfl rfl Hone.out (own_alloc Ho.out (.cells Y.toArray 43)) (Rd.lit wr 32 1 Y 43 (by rw [HYl.out]) (by simp [maxLen])) (by have := hB.size; rw [alloc_size]; omega) (by omega) (fun v1 w7 ho7 hg7 hat7 => hK _ _ ?_)); obtain ⟨A7, c7, rfl, -, -, -⟩ := (Rd.of_own ho7).slice_; have Ho7 := Lib.hid ho7; have hB7 := (hB.alloc hB.size (.cells Y.toArray 43)).grown hg7 (by have := hB.size; rw [alloc_size]; omega) (fun q hq => own_base Ho.out q hq); clear ho7 hg7 hat7))
    exact ⟨⟨k + 1, A7, c7, by omega, by go_num, rfl, Lib.hid (by rw [Hst.out]; exact Ho7.out), hB7⟩, by simp only [intOf]; omega⟩
end Go.Proofs.Ytcjabfdjngekfaa.Ids
set_option linter.unusedVariables false
set_option linter.unusedSimpArgs false
namespace Go.Proofs.Ytcjabfdjngekfaa.Ids
open Go.RowKit Go.Proofs.Ytcjabfdjngekfaa.Wd Go.Proofs.Ytcjabfdjngekfaa.Use Go.Proofs.Ytcjabfdjngekfaa.Lay

theorem take_succ_b (l : List UInt8) (k : Nat) (h : k < l.length) : l.take (k + 1) = l.take k ++ [l.getD k 0] := by
  rw [List.take_succ_eq_append_getElem h, List.getD_eq_getElem?_getD, List.getElem?_eq_getElem h]; rfl
set_option maxRecDepth 100000 in
set_option maxHeartbeats 8000000 in
theorem rPut_any (l : List Id) (h32 : W32 l) (hn : l.length ≤ 100000) (v : Value) (w : World) (hv : Rd w 32 v l.length (ix l)) :
    Calls Try.prog 129 #[v] w fun e w' => e = .returned (.string (str (put l))) ∧ Below w.heap.size w w' := by
  obtain ⟨A, c, rfl, hc1, hc2, -⟩ := hv.slice_
  unfold maxLen at hc2
  have Hv := Lib.hid hv
  have H32 := Lib.hid h32
  obtain ⟨n, hn'⟩ : ∃ n, n = l.length := ⟨_, rfl⟩
  have hput : put l = putN n ++ l.flatten := by rw [put, ← hn']
  rw [hput]
  rw [← hn'] at Hv hc1 hn ⊢
  have Hn := Lib.hid hn'
  have hpn := Ref01.PutNumber_any [] n w (by omega) (by simp)
  rw [List.nil_append] at hpn
  have hw : IntKind.u64.wrap (n : Int) = (n : Int) := by rw [IntKind.wrap_u64]; omega
  have Hpn := Lib.hid hpn
  have hfl := h32.flat
  have hp9 : (putN n).length ≤ 9 := by rw [putN_length]; have := blen_le (v := n) (by omega); omega
  have HL := Lib.hid (show ∀ k, ((l.take k).flatten).length ≤ 3200000 from fun k => by
    have := (h32.take k).flat; rw [List.length_take] at this; omega)
  obtain ⟨P, hP⟩ : ∃ P, P = putN n := ⟨_, rfl⟩
  rw [← hP] at Hpn hp9 ⊢
  have ks := fun (y : Int) (W : World) => conv_lit1 (P := Try.prog) (dst := 9) Try.underlying23 Try.underlying5 Try.underlying9 y W
  clear hv h32 hn' hput hpn hfl hP
  go_enter Try.func129, Try.ntmps129
  go_wp2_with (go_at_call 100; refine Hpn.out.mono ?_; rintro e w1 ⟨rfl, hb1⟩)
  go_loopw [3, 4] (fun s_ i_ wr => ∃ k : Nat, k ≤ n ∧ i_ = .int .i64 (k : Int) ∧ s_ = .string (str (P ++ (l.take k).flatten)) ∧ Below w.heap.size w wr) (fun _ i_ _ => n - (intOf i_).toNat)
  case atStart => exact ⟨0, Nat.zero_le _, rfl, by simp, hb1⟩
  case round =>
    obtain ⟨k, hk, rfl, rfl, hB⟩ := hrel
    by_cases hkn : k < n
    rotate_left
    · obtain rfl : k = n := by omega
      have hd1 : decide ((k : Int) < (k : Int)) = false := decide_eq_false (by omega)
      rw [show l.take k = l from List.take_of_length_le (by rw [← Hn.out]; exact Nat.le_refl _)]
      go_wp2_with fail
      go_ret
      exact ⟨rfl, hB⟩
    have hd1 : decide ((k : Int) < (n : Int)) = true := decide_eq_true (by omega)
    have i0 : (0 : Int) ≤ (k : Int) := by omega
    have i1 : (k : Int) < (n : Int) := by omega
    obtain ⟨b, off, rfl, hr⟩ := ix_at (Hv.out.below hB) H32.out Hn.out (by omega)
    have hr1 := hr k hkn
    have hyl := H32.out.get k (by have := Hn.out; omega)
    have hst : (l.take (k + 1)).flatten = (l.take k).flatten ++ l.getD k [] := by
      have hk' : k < l.length := by have := Hn.out; omega
      rw [List.take_succ_eq_append_getElem hk', List.flatten_append, List.flatten_cons, List.flatten_nil, List.append_nil, List.getD_eq_getElem?_getD, List.getElem?_eq_getElem hk']; rfl
    have hfl := HL.out k
    have Hst := Lib.hid hst
    generalize l.getD k [] = y at hr1 hyl Hst
    generalize (l.take k).flatten = F at hfl Hst ⊢
    have Hc := Lib.hid (show ∀ W, Below wr.heap.size wr W → ∀ j, j < 32 → W.cell? ⟨b, off + k * 32 + j, none⟩ = some (.int .u8 ((y.getD j 0).toNat : Int)) from fun W h j hj => cell_below h (hr1 j _ (bs_at y j (by omega))))
    have Hyl := Lib.hid hyl
    clear hr hr1 hst hyl
    go_wp2_with fail
    go_loopw [3, 5] (fun s_ j_ wq => ∃ j : Nat, j ≤ 32 ∧ j_ = .int .i64 (j : Int) ∧ s_ = .string (str (P ++ F ++ y.take j)) ∧ Below wr.heap.size wr wq) (fun _ j_ _ => 32 - (intOf j_).toNat)
    case atStart => exact ⟨0, by omega, rfl, by simp, Below.refl _ _⟩
    case round =>
      obtain ⟨j, hj, rfl, rfl, hBq⟩ := hrel
      by_cases hj32 : j < 32
      rotate_left
      · obtain rfl : j = 32 := by omega
        have Hy := Lib.hid (show y.take 32 = y from List.take_of_length_le (by rw [Hyl.out]; exact Nat.le_refl _))
        go_wp2_with fail
        exact ⟨⟨k + 1, by omega, by go_num, by rw [Hst.out, Hy.out, List.append_assoc], below_go hBq hB⟩, by simp only [intOf]; omega⟩
      have hd2 : decide ((j : Int) < 32) = true := decide_eq_true (by omega)
      have j0 : (0 : Int) ≤ (j : Int) := by omega
      have j1 : (j : Int) < 32 := by omega
      have hcj := Hc.out wr hBq j hj32
      have Hys := Lib.hid (take_succ_b y j (by rw [Hyl.out]; exact hj32))
      have hyt : (y.take j).length ≤ 32 := by rw [List.length_take]; omega
      generalize y.getD j 0 = z at hcj Hys
      generalize y.take j = T at Hys hyt ⊢
      go_wp2_with fail
      exact ⟨⟨j + 1, by omega, by go_num, by rw [Hys.out, str_append]; congr 2; simp, hBq.alloc hBq.size _⟩, by simp only [intOf]; omega⟩
end Go.Proofs.Ytcjabfdjngekfaa.Ids
set_option linter.unusedVariables false
set_option linter.unusedSimpArgs false
namespace Go.Proofs.Ytcjabfdjngekfaa.Ids
open Go.RowKit Go.Proofs.Ytcjabfdjngekfaa.Wd Go.Proofs.Ytcjabfdjngekfaa.Use Go.Proofs.Ytcjabfdjngekfaa.Lay

/-- what a reading of the reference holds: its reader's block, the ids so far -/
structure RV (w W : World) (g : Nat) (O : Obj) (ov : Value) (out : List Id) : Prop where
  rd : W.heap[g]? = some O
  own : W.ownsRow (g + 1) 43 32 ov out.length (ix out)
  lg : w.heap.size ≤ g
  b : Below w.heap.size w W
variable {w W W1 : World} {g : Nat} {O O' : Obj} {ov : Value} {out : List Id}
theorem RV.below (h : RV w W g O ov out) (hb : Below W.heap.size W W1) : RV w W1 g O ov out := ⟨blk_below h.rd hb, own_below h.own hb, h.lg, below_go hb h.b⟩
theorem RV.set (h : RV w W g O ov out) (h1 : W1.heap[g]? = some O') (hg : W.grownBy W1 (some g)) : RV w W1 g O' ov out :=
  ⟨h1, own_grown h.own hg (fun k hk e => by injection hk with hk; have := own_base h.own k (by rw [e]); omega), h.lg, h.b.grown hg h.b.size (fun k hk => by injection hk with hk; have := h.lg; omega)⟩
theorem RV.other (h : RV w W g O ov out) {G : Nat} (hg : W.grownBy W1 (some G)) (h1 : G ≠ g) (h2 : ov.ownBlock ≠ some G) (h3 : w.heap.size ≤ G) : RV w W1 g O ov out :=
  ⟨blk_grown h.rd hg (by intro e; injection e with e; exact h1 e.symm), own_grown h.own hg (fun k hk e => by injection hk with hk; subst hk; exact h2 e), h.lg, h.b.grown hg h.b.size (fun k hk => by injection hk with hk; omega)⟩
theorem RV.app (h : RV w W g O ov out) {v1 : Value} {out' : List Id} (ho : W1.ownsRow (g + 1) 43 32 v1 out'.length (ix out')) (hg : W.grownBy W1 ov.ownBlock) : RV w W1 g O v1 out' :=
  ⟨blk_grown h.rd hg (fun e => by have := own_base h.own g e.symm; omega), ho, h.lg, h.b.grown hg h.b.size (fun k hk => by have := own_base h.own k hk; have := h.lg; omega)⟩
theorem RV.lt (h : RV w W g O ov out) : ∀ k, ov.ownBlock = some k → k < W.heap.size := fun k hk => (h.own.lt k hk).2
theorem own_down {w : World} {base base' : Nat} {e : TypeId} {size n : Nat} {v : Value} {xs : List Value} (h : w.ownsRow base e size v n xs) (hb : base' ≤ base) : w.ownsRow base' e size v n xs :=
  ⟨h.1, h.2.elim .inl (fun ⟨g, cap, cur, e, h1, r⟩ => .inr ⟨g, cap, cur, e, Nat.le_trans hb h1, r⟩)⟩
theorem rl_w : ∀ (n : Nat) (r : Rdr) (out : List Id), W32 out → W32 (rl n r out).2
  | 0, r, out, h => h
  | n + 1, r, out, h => by
    by_cases h0 : r.bad = 0
    · rw [rl_ok n r out h0]; exact rl_w n _ _ (h.app (W32.one (pad_raw r)))
    · rw [rl_bad _ r out h0]; exact h
theorem read_w (b : List UInt8) (most : Int) : W32 (read b most).1 := by
  unfold read
  simp only
  split
  · exact W32.nil
  · split
    · exact W32.nil
    · exact rl_w _ _ _ W32.nil
theorem rl_len : ∀ (n : Nat) (r : Rdr) (out : List Id), (rl n r out).2.length ≤ out.length + n
  | 0, r, out => by simp [rl]
  | n + 1, r, out => by
    by_cases h0 : r.bad = 0
    · rw [rl_ok n r out h0]; have := rl_len n (r.raw 32).2 (out ++ [pad (r.raw 32).1]); rw [List.length_append, List.length_singleton] at this; omega
    · rw [rl_bad _ r out h0]; show out.length ≤ _; omega
theorem read_len8 (b : List UInt8) (h : ((⟨b, 0⟩ : Rdr).small 8).1 ≤ 8) : (read b 8).1.length ≤ 8 := by
  unfold read
  simp only
  split
  · simp
  · split
    · simp
    · have := rl_len ((⟨b, 0⟩ : Rdr).small 8).1 ((⟨b, 0⟩ : Rdr).small 8).2 []
      simp only [List.length_nil, Nat.zero_add] at this
      simp only
      omega
/-- so much of a sum is laid -/
def part (s : List UInt8) (j : Nat) : List UInt8 := s.take j ++ List.replicate (32 - j) 0
theorem part_zero (s : List UInt8) : part s 0 = zid := by simp [part, zid]
theorem part_all {s : List UInt8} (h : s.length = 32) : part s 32 = s := by simp [part, List.take_of_length_le (Nat.le_of_eq h)]
theorem part_set {s : List UInt8} (h : s.length = 32) (j : Nat) (hj : j < 32) : (bs (part s j)).set j (.int .u8 ((s.getD j 0).toNat : Int)) = bs (part s (j + 1)) := by
  have hl : (s.take j).length = j := by rw [List.length_take]; omega
  have e : List.replicate (32 - j) (0 : UInt8) = 0 :: List.replicate (32 - (j + 1)) 0 := by rw [show 32 - j = (32 - (j + 1)) + 1 by omega]; rfl
  rw [part, part, e, List.take_succ_eq_append_getElem (by omega)]
  simp only [bs, List.map_append, List.map_cons, List.map_nil]
  rw [List.set_append_right _ _ (by rw [List.length_map]; omega), List.length_map, hl, Nat.sub_self, List.set_cons_zero, List.append_assoc, List.getD_eq_getElem?_getD, List.getElem?_eq_getElem (by omega)]
  rfl
theorem str_idx (s : List UInt8) (j : Nat) (h : j < s.length) : (str s).data[j]?.getD 0 = s.getD j 0 := by
  rw [List.getD_eq_getElem?_getD]; simp [str]
set_option maxRecDepth 100000 in
set_option maxHeartbeats 16000000 in
theorem rRead_any (b : List UInt8) (most : Int) (hb : b.length ≤ 1000000) (hm : most < 9223372036854775808) (w : World) :
    Calls Try.prog 130 #[.string (str b), .int .i64 most] w fun e w' => ∃ v, e = .returned (.tuple #[v, .int .i64 ((read b most).2 : Int)]) ∧ w'.ownsRow w.heap.size 43 32 v (read b most).1.length (ix (read b most).1) ∧ Below w.heap.size w w' := by
  obtain ⟨N, hN⟩ : ∃ N, N = ((⟨b, 0⟩ : Rdr).small most).1 := ⟨_, rfl⟩
  obtain ⟨r2, hr2⟩ : ∃ r2, r2 = ((⟨b, 0⟩ : Rdr).small most).2 := ⟨_, rfl⟩
  have hNlt : N < 9223372036854775808 := by rw [hN]; exact Rdr.small_le _ _ hm
  have hF0 : Fits b r2 [] := ⟨by simp, fun h => by have := rsmall_len ⟨b, 0⟩ most (by rw [← hr2]; exact h); rw [← hr2] at this; simpa using this⟩
  have hsm := fun W => Ref01.Small_any ⟨b, 0⟩ most hm W
  rw [← hN, ← hr2] at hsm
  have hrd : ∀ t, rl N r2 [] = t → read b most = (if t.1.bad ≠ 0 then ([], t.1.bad) else if t.1.fin ≠ 0 ∨ up t.2 = false then ([], 11) else (t.2, 0)) := by
    intro t ht; rw [← ht, read]; simp only [← hr2, ← hN]
  have Hsm := Lib.hid hsm
  have HF0 := Lib.hid hF0
  have Hb := Lib.hid hb
  have Hrd := Lib.hid hrd
  clear hsm hN hr2 hF0 hb hrd
  go_enter Try.func130, Try.ntmps130
  by_cases h2 : r2.bad = 0
  rotate_left
  · have hne : ((r2.bad : Int) != 0) = true := by rw [bne_iff_ne]; omega
    have Hr := Lib.hid (show read b most = ([], r2.bad) by rw [Hrd.out _ (rl_bad _ _ _ h2), if_pos h2])
    clear h2
    go_upto_region 3 with (go_at_call 108; refine (Hsm.out _).mono ?_; rintro e w1 ⟨rfl, hb1⟩)
    have hk := heap_alloc_new w1 (.cells #[.string (str r2.b), .int .i64 (r2.bad : Int)] 149)
    have hc : (w1.alloc (.cells #[.string (str r2.b), .int .i64 (r2.bad : Int)] 149)).cell? ⟨w1.heap.size, 1, none⟩ = some (.int .i64 (r2.bad : Int)) := by rw [blk_cell hk 1]; rfl
    (refine Ord.wp_region_ord [(false, 0), (false, 1), (false, 2), (false, 3)] (fun W => W.cell? ⟨w1.heap.size, 1, none⟩ = some (.int .i64 (r2.bad : Int))) (by kernel_rfl) (by kernel_rfl) (by kernel_rfl) (by kernel_rfl) (by exact hc) ?_; simp only [Ord.ordOps, List.filterMap_cons, List.filterMap_nil, List.getElem?_toArray, List.getElem?_cons_succ, List.getElem?_cons_zero, Option.map_some]; repeat (first | (refine Ord.wpOrd_skip ?_ ?_; (focus (go_simp; (try (intro h; cases h)); done)); simp only [Act.put, List.setIfInBounds_toArray, List.set_cons_zero, List.set_cons_succ]) | (refine Ord.wpOrd_take (v := ?_) ?_ ?_ ?_; rotate_left; (focus (go_simp; done)); (focus (intro w' hSw; (try dsimp only at hSw); go_simp; (try with_reducible rfl); done)); simp only [Act.put, List.setIfInBounds_toArray, List.set_cons_zero, List.set_cons_succ])))
    refine Ord.wpOrd_nil ?_
    go_wp2_with fail
    go_ret2
    exact ⟨_, by rw [Hr.out]; rfl, by rw [Hr.out]; exact own_nil _ _ _ _, below_go (below_one _ _).drew hb1⟩
  obtain ⟨b2, bd2⟩ := r2
  simp only at h2
  subst h2
  go_wp2_with (go_at_call 108; refine (Hsm.out _).mono ?_; rintro e w1 ⟨rfl, hb1⟩)
  have R2 : RV w (w1.alloc (.cells #[.string (str b2), .int .i64 0] 149)) w1.heap.size (.cells #[.string (str b2), .int .i64 0] 149 (0, 0)) (.slice none 0 0) [] := ⟨heap_alloc_new _ _, own_nil _ _ _ _, hb1.size, hb1.alloc hb1.size _⟩
  generalize w1.alloc (.cells #[.string (str b2), .int .i64 0] 149) = w2 at R2 ⊢
  generalize w1.heap.size = g at R2 ⊢
  have R2' := Lib.hid R2
  clear R2 hb1
  go_loopw [8, 9] (fun o_ i_ wr => ∃ (k : Nat) (bb : List UInt8) (out : List Id) (Ao : Option Addr) (co : Nat), i_ = .int .i64 (k : Int) ∧ k ≤ N ∧ o_ = .slice Ao k co ∧ k ≤ 40000 ∧ Hid (out.length = k) ∧ Hid (rl (N - k) ⟨bb, 0⟩ out = rl N ⟨b2, 0⟩ []) ∧ Hid (RV w wr g (.cells #[.string (str bb), .int .i64 0] 149 (0, 0)) (.slice Ao k co) out) ∧ Hid (W32 out) ∧ Hid (Fits b ⟨bb, 0⟩ out)) (fun _ i_ _ => N - (intOf i_).toNat)
  case atStart => exact ⟨0, b2, [], none, 0, rfl, Nat.zero_le _, rfl, by omega, Lib.hid rfl, Lib.hid rfl, R2', Lib.hid W32.nil, HF0⟩
  case round =>
    clear R2'
    obtain ⟨k, bb, out, Ao, co, rfl, hk, rfl, hk4, Hol, Hrl, HR, H32, HF⟩ := hrel
    have c0 : wr.cell? ⟨g, 0, none⟩ = some (.string (str bb)) := by rw [blk_cell HR.out.rd 0]; rfl
    have c1 : wr.cell? ⟨g, 1, none⟩ = some (.int .i64 0) := by rw [blk_cell HR.out.rd 1]; rfl
    by_cases hkN : k < N
    rotate_left
    · obtain rfl : k = N := by omega
      have hd1 : decide ((k : Int) < (k : Int)) = false := decide_eq_false (by omega)
      have Ht := Lib.hid (Hrd.out (⟨bb, 0⟩, out) (by rw [← Hrl.out, Nat.sub_self]; rfl))
      have hend := fun W => Ref01.End_any ⟨bb, 0⟩ W
      have hfin := fin_ok (r := ⟨bb, 0⟩) rfl
      obtain ⟨fn, hfn⟩ : ∃ x, x = (⟨bb, 0⟩ : Rdr).fin := ⟨_, rfl⟩
      rw [← hfn] at hend hfin
      have hof := fun W (h : Below wr.heap.size wr W) => rOf_any out H32.out (by have := Hol.out; omega) (.slice Ao k co) W (by rw [Hol.out]; have h2 := (Rd.of_own HR.out.own).below h; rw [Hol.out] at h2; exact h2)
      have hsame := fun W v2 (h : Below wr.heap.size wr W) (h2 : Rd W 32 v2 (rof out).length (ix (rof out))) => rSame_any out (rof out) H32.out (rof_w _ _ W32.nil H32.out) (.slice Ao k co) v2 W (by rw [Hol.out]; have h3 := (Rd.of_own HR.out.own).below h; rw [Hol.out] at h3; exact h3) h2
      simp only [same_rof] at hsame
      have Hend := Lib.hid hend
      have Hof := Lib.hid hof
      have Hsame := Lib.hid hsame
      rcases hfin with rfl | rfl
      rotate_left
      · have Hr := Lib.hid (show read b most = ([], 11) by rw [Ht.out, if_neg (by simp), if_pos (Or.inl (by rw [← hfn]; decide))])
        clear hend hof hsame hfn
        go_wp2_with (go_at_call 110; refine (Hend.out _).mono ?_; rintro e w3 ⟨rfl, hb3⟩)
        go_ret2
        exact ⟨_, by rw [Hr.out]; rfl, by rw [Hr.out]; exact own_nil _ _ _ _, below_go hb3 HR.out.b⟩
      clear hend hof hsame
      cases hup : up out
      · have Hr := Lib.hid (show read b most = ([], 11) by rw [Ht.out, if_neg (by simp), if_pos (Or.inr hup)])
        rw [hup] at Hsame
        clear hfn hup
        go_wp2_with (first
          | (go_at_call 110; refine (Hend.out _).mono ?_; rintro e w3 ⟨rfl, hb3⟩)
          | (go_at_call 128; refine (Hof.out _ hb3).mono ?_; rintro e w4 ⟨v4, rfl, hr4, hb4⟩; have hb4' := below_go hb4 hb3; have Hr4 := Lib.hid hr4; clear hr4)
          | (go_at_call 127; refine (Hsame.out _ _ hb4' Hr4.out).mono ?_; rintro e w5 ⟨rfl, hb5⟩))
        go_ret2
        exact ⟨_, by rw [Hr.out]; rfl, by rw [Hr.out]; exact own_nil _ _ _ _, below_go hb5 (below_go hb4' HR.out.b)⟩
      · have Hr := Lib.hid (show read b most = (out, 0) by rw [Ht.out, if_neg (by simp), if_neg (by rintro (h | h); rw [← hfn] at h; exact h rfl; simp only at h; rw [hup] at h; cases h)])
        rw [hup] at Hsame
        clear hfn hup
        go_wp2_with (first
          | (go_at_call 110; refine (Hend.out _).mono ?_; rintro e w3 ⟨rfl, hb3⟩)
          | (go_at_call 128; refine (Hof.out _ hb3).mono ?_; rintro e w4 ⟨v4, rfl, hr4, hb4⟩; have hb4' := below_go hb4 hb3; have Hr4 := Lib.hid hr4; clear hr4)
          | (go_at_call 127; refine (Hsame.out _ _ hb4' Hr4.out).mono ?_; rintro e w5 ⟨rfl, hb5⟩))
        go_ret2
        refine ⟨_, by rw [Hr.out]; rfl, ?_, below_go hb5 (below_go hb4' HR.out.b)⟩
        rw [Hr.out]
        have h3 := own_down (own_below HR.out.own (below_go hb5 hb4')) (show w.heap.size ≤ g + 1 by have := HR.out.lg; omega)
        simp only
        rw [Hol.out] at h3 ⊢
        exact h3
    have hd1 : decide ((k : Int) < (N : Int)) = true := decide_eq_true (by omega)
    have hraw := fun W => Ref01.Raw_any ⟨bb, 0⟩ 32 W
    obtain ⟨x, hx⟩ : ∃ x, x = ((⟨bb, 0⟩ : Rdr).raw 32).1 := ⟨_, rfl⟩
    obtain ⟨r', hr'⟩ : ∃ r', r' = ((⟨bb, 0⟩ : Rdr).raw 32).2 := ⟨_, rfl⟩
    have hrl2 : rl (N - (k + 1)) r' (out ++ [pad x]) = rl N ⟨b2, 0⟩ [] := by rw [← Hrl.out, show N - k = N - (k + 1) + 1 by omega, rl_ok _ _ _ rfl, ← hx, ← hr']
    have hfx := HF.out.next rfl
    have hxo := raw_len ⟨bb, 0⟩ 32
    rw [show ((32 : Nat) : Int) = 32 from rfl] at hxo
    rw [← hx, ← hr'] at hraw hfx hxo
    have hraw' : ∀ W, Calls Try.prog 155 #[.agg #[.string (str bb), .int .i64 0], .int .i64 32] W fun e w' => e = .returned (.tuple #[.agg #[.string (str r'.b), .int .i64 (r'.bad : Int)], .string (str x)]) ∧ Below W.heap.size W w' := hraw
    have Hraw := Lib.hid hraw'
    have Hrl2 := Lib.hid hrl2
    have Hfx := Lib.hid hfx
    clear hx hr' hraw hraw' hrl2 hfx
    by_cases hbad : r'.bad = 0
    rotate_left
    · have hne : ((r'.bad : Int) != 0) = true := by rw [bne_iff_ne]; omega
      have Hr := Lib.hid (show read b most = ([], r'.bad) by rw [Hrd.out (r', out ++ [pad x]) (by rw [← Hrl2.out, rl_bad _ _ _ hbad]), if_pos hbad])
      clear hbad hxo
      obtain ⟨rb, rbd⟩ := r'
      simp only at hne Hr Hraw
      go_upto_region 11 with (first
        | (go_at_call 155; refine (Hraw.out _).mono ?_; rintro e w3 ⟨rfl, hb3⟩; have R3 := HR.out.below (below_go (below_one w3 (.cells #[.string (str rb), .int .i64 (rbd : Int)] 149)) hb3); have R3' := Lib.hid R3; have k0 : (w3.alloc (.cells #[.string (str rb), .int .i64 (rbd : Int)] 149)).cell? ⟨w3.heap.size, 0, none⟩ = some (.string (str rb)) := (by rw [blk_cell (heap_alloc_new _ _) 0]; rfl); have k1 : (w3.alloc (.cells #[.string (str rb), .int .i64 (rbd : Int)] 149)).cell? ⟨w3.heap.size, 1, none⟩ = some (.int .i64 (rbd : Int)) := (by rw [blk_cell (heap_alloc_new _ _) 1]; rfl); clear R3)
        | (refine Sha.wpList_store_all rfl 149 _ _ rfl g [.string (str rb), .int .i64 (rbd : Int)] [.string (str bb), .int .i64 0] rfl rfl (by intro v hv; simp at hv; rcases hv with rfl | rfl <;> rfl) rfl (by kernel_rfl) _ R3'.out.rd ?_; intro w4 hz4 hg4; have R4 := Lib.hid (R3'.out.set hz4.out hg4); have n1 : w4.cell? ⟨g, 1, none⟩ = some (.int .i64 (rbd : Int)) := (by rw [blk_cell hz4.out 1]; rfl)))
      (refine Ord.wp_region_ord [(false, 0), (false, 1), (false, 2), (false, 3)] (fun W => W.cell? ⟨g, 1, none⟩ = some (.int .i64 (rbd : Int))) (by kernel_rfl) (by kernel_rfl) (by kernel_rfl) (by kernel_rfl) (by exact n1) ?_; simp only [Ord.ordOps, List.filterMap_cons, List.filterMap_nil, List.getElem?_toArray, List.getElem?_cons_succ, List.getElem?_cons_zero, Option.map_some]; repeat (first | (refine Ord.wpOrd_skip ?_ ?_; (focus (go_simp; (try (intro h; cases h)); done)); simp only [Act.put, List.setIfInBounds_toArray, List.set_cons_zero, List.set_cons_succ]) | (refine Ord.wpOrd_take (v := ?_) ?_ ?_ ?_; rotate_left; (focus (go_simp; done)); (focus (intro w' hSw; (try dsimp only at hSw); go_simp; (try with_reducible rfl); done)); simp only [Act.put, List.setIfInBounds_toArray, List.set_cons_zero, List.set_cons_succ])))
      refine Ord.wpOrd_nil ?_
      go_wp2_with fail
      go_ret2
      exact ⟨_, by rw [Hr.out]; rfl, by rw [Hr.out]; exact own_nil _ _ _ _, R4.out.b.drew⟩
    have hx32 : x.length = 32 := by
      rcases hxo with ⟨h, -⟩ | ⟨-, h⟩
      · exact h
      · exact absurd hbad h
    obtain ⟨rb, rbd⟩ := r'
    simp only at hbad
    subst hbad
    have Hx := Lib.hid hx32
    have Hone := Lib.hid (show ∀ u ∈ bs x, u.oneCell' = true from bs_oneCell _)
    have hpx := pad_full hx32
    rw [hpx] at Hrl2 Hfx
    have hfo : (out ++ [x]).length * 32 ≤ b.length + 32 := Hfx.out.1
    rw [List.length_append, List.length_singleton, Hol.out] at hfo
    have hk40 : k + 1 ≤ 40000 := by have := Hb.out; omega
    clear hxo hpx hfo hx32
    go_upto_region 13 with (first
      | (go_at_call 155; refine (Hraw.out _).mono ?_; rintro e w3 ⟨rfl, hb3⟩; have R3 := HR.out.below (below_go (below_one w3 (.cells #[.string (str rb), .int .i64 0] 149)) hb3); have R3' := Lib.hid R3; have k0 : (w3.alloc (.cells #[.string (str rb), .int .i64 0] 149)).cell? ⟨w3.heap.size, 0, none⟩ = some (.string (str rb)) := (by rw [blk_cell (heap_alloc_new _ _) 0]; rfl); have k1 : (w3.alloc (.cells #[.string (str rb), .int .i64 0] 149)).cell? ⟨w3.heap.size, 1, none⟩ = some (.int .i64 0) := (by rw [blk_cell (heap_alloc_new _ _) 1]; rfl); clear R3)
      | (refine Sha.wpList_store_all rfl 149 _ _ rfl g [.string (str rb), .int .i64 0] [.string (str bb), .int .i64 0] rfl rfl (by intro v hv; simp at hv; rcases hv with rfl | rfl <;> rfl) rfl (by kernel_rfl) _ R3'.out.rd ?_; intro w4 hz4 hg4; have R4 := Lib.hid (R3'.out.set hz4.out hg4); have n1 : w4.cell? ⟨g, 1, none⟩ = some (.int .i64 0) := (by rw [blk_cell hz4.out 1]; rfl)))
    have hz5 : (w4.alloc (.cells #[.int .u8 0, .int .u8 0, .int .u8 0, .int .u8 0, .int .u8 0, .int .u8 0, .int .u8 0, .int .u8 0, .int .u8 0, .int .u8 0, .int .u8 0, .int .u8 0, .int .u8 0, .int .u8 0, .int .u8 0, .int .u8 0, .int .u8 0, .int .u8 0, .int .u8 0, .int .u8 0, .int .u8 0, .int .u8 0, .int .u8 0, .int .u8 0, .int .u8 0, .int .u8 0, .int .u8 0, .int .u8 0, .int .u8 0, .int .u8 0, .int .u8 0, .int .u8 0] 43)).heap[w4.heap.size]? = some (.cells (bs (part x 0)).toArray 43 (0, 0)) := by rw [part_zero]; exact heap_alloc_new _ _
    have R5 := R4.out.below (below_one w4 (.cells #[.int .u8 0, .int .u8 0, .int .u8 0, .int .u8 0, .int .u8 0, .int .u8 0, .int .u8 0, .int .u8 0, .int .u8 0, .int .u8 0, .int .u8 0, .int .u8 0, .int .u8 0, .int .u8 0, .int .u8 0, .int .u8 0, .int .u8 0, .int .u8 0, .int .u8 0, .int .u8 0, .int .u8 0, .int .u8 0, .int .u8 0, .int .u8 0, .int .u8 0, .int .u8 0, .int .u8 0, .int .u8 0, .int .u8 0, .int .u8 0, .int .u8 0, .int .u8 0] 43))
    have hoG : (Value.slice Ao k co).ownBlock ≠ some w4.heap.size := fun e => by have := R4.out.lt _ e; omega
    have hgG : w4.heap.size ≠ g := by have := blk_lt R4.out.rd; omega
    have hwG : w.heap.size ≤ w4.heap.size := R4.out.b.size
    generalize w4.alloc (.cells #[.int .u8 0, .int .u8 0, .int .u8 0, .int .u8 0, .int .u8 0, .int .u8 0, .int .u8 0, .int .u8 0, .int .u8 0, .int .u8 0, .int .u8 0, .int .u8 0, .int .u8 0, .int .u8 0, .int .u8 0, .int .u8 0, .int .u8 0, .int .u8 0, .int .u8 0, .int .u8 0, .int .u8 0, .int .u8 0, .int .u8 0, .int .u8 0, .int .u8 0, .int .u8 0, .int .u8 0, .int .u8 0, .int .u8 0, .int .u8 0, .int .u8 0, .int .u8 0] 43) = w5 at hz5 R5 ⊢
    generalize w4.heap.size = G at hz5 hoG hgG hwG ⊢
    have Hz5 := Lib.hid hz5
    have R5' := Lib.hid R5
    have HoG := Lib.hid hoG
    clear hz5 R5 hoG c0 c1 k0 k1 n1 R3' R4 hz4 hg4 HR Hraw hb3
    go_wp2_with fail
    go_loopw [13] (fun j_ wr => ∃ j : Nat, j ≤ 32 ∧ j_ = .int .i64 (j : Int) ∧ Hid (wr.heap[G]? = some (.cells (bs (part x j)).toArray 43 (0, 0))) ∧ Hid (RV w wr g (.cells #[.string (str rb), .int .i64 0] 149 (0, 0)) (.slice Ao k co) out)) (fun j_ _ => 32 - (intOf j_).toNat)
    case atStart => exact ⟨0, by omega, rfl, Hz5, R5'⟩
    case round =>
      obtain ⟨j, hj, rfl, Hz, HR⟩ := hrel
      by_cases hj32 : j < 32
      rotate_left
      · obtain rfl : j = 32 := by omega
        have hz := Hz.out
        rw [part_all Hx.out] at hz
        obtain ⟨X, hX⟩ : ∃ X, X = bs x := ⟨_, rfl⟩
        rw [← hX] at hz Hone
        have HXl := Lib.hid (show X.length = 32 by rw [hX, bs_length, Hx.out])
        have Hi1 := Lib.hid (show (Try.prog.info? 43).map (·.size) = some X.length by rw [HXl.out]; rfl)
        have Hra := Lib.hid (range_all hz)
        have HX := Lib.hid hX
        clear hz hX
        go_wp2_with (first
          | (refine wpList_load_mid rfl 43 _ rfl G 0 rfl X _ Hra.out Try.underlying43 rfl Hi1.out ?_)
          | (refine wpList_plain rfl (fun K hK => wp_build_one elR (by decide) _ rfl X rfl HXl.out (hK _ _ ?_)))
          | (refine wpList_plain rfl (fun K hK => Ord.wp_app_row elR (.tmp 51) (.tmp 53) rfl (g + 1) (.slice Ao k co) _ k 1 (ix out) X rfl rfl Hone.out (by have h := (HR.out.below (below_one wr (.cells X.toArray 43))).own; rw [Hol.out] at h; exact h) (Rd.lit wr 32 1 X 43 (by rw [HXl.out]) (by simp [maxLen])) (by have := blk_lt HR.out.rd; rw [alloc_size]; omega) (by omega) (fun v1 w7 ho7 hg7 hat7 => hK _ _ ?_)); obtain ⟨A7, c7, rfl, -, -, -⟩ := (Rd.of_own ho7).slice_; have R7 := Lib.hid ((HR.out.below (below_one wr (.cells X.toArray 43))).app (out' := out ++ [x]) (by rw [List.length_append, ix_append, ix_one, ← HX.out, Hol.out]; exact ho7) hg7)))
        exact ⟨⟨k + 1, rb, out ++ [x], A7, c7, by go_num, by omega, rfl, hk40, Lib.hid (by rw [List.length_append, Hol.out]; rfl), Hrl2, R7, Lib.hid (H32.out.app (W32.one Hx.out)), Hfx⟩, by simp only [intOf]; omega⟩
      have hd2 : decide ((j : Int) < 32) = true := decide_eq_true (by omega)
      have j0 : (0 : Int) ≤ (j : Int) := by omega
      have j1 : (j : Int) < 32 := by omega
      have hxl : x.length = 32 := Hx.out
      have hset := blk_set Hz.out j (.int .u8 ((x.getD j 0).toNat : Int))
      rw [List.setIfInBounds_toArray, part_set hxl j hj32] at hset
      have hcell : (wr.cell? ⟨G, j, none⟩).isSome = true := by
        rw [blk_cell Hz.out j]; simp only [List.getElem?_toArray]; rw [List.getElem?_eq_getElem (by rw [bs_length, part, List.length_append, List.length_take, List.length_replicate]; omega)]; rfl
      obtain ⟨cv, hcv⟩ := Option.isSome_iff_exists.1 hcell
      have hfz := blk_frozen Hz.out j
      have R6 := Lib.hid (HR.out.other (grown_setCell wr G j (.int .u8 ((x.getD j 0).toNat : Int))) hgG HoG.out hwG)
      have Hset := Lib.hid hset
      have hjx : j < x.length := by omega
      have hidx := str_idx x j hjx
      have hsz := str_size x
      have hgx : x.getD j 0 = x[j] := by rw [List.getD_eq_getElem?_getD, List.getElem?_eq_getElem hjx]; rfl
      rw [hgx] at Hset R6
      clear hset hcell hidx hgx
      go_wp2_with fail
      exact ⟨⟨j + 1, by omega, by go_num, Hset, R6⟩, by simp only [intOf]; omega⟩
end Go.Proofs.Ytcjabfdjngekfaa.Ids
