/- Leaves' walks: the reference's order of keys, its Rising and Right. -/
import Derived.Test.YtcjabfdjngekfaaLeafW4
set_option linter.unusedVariables false
set_option linter.unusedSimpArgs false
namespace Go.Proofs.Ytcjabfdjngekfaa.Leaf
open Go.RowKit Go.Proofs.Ytcjabfdjngekfaa.Wd Go.Proofs.Ytcjabfdjngekfaa.Use Go.Proofs.Ytcjabfdjngekfaa.Lay
open Go.Proofs.Ytcjabfdjngekfaa.Rel (env_cells)

theorem getD_at (l : List UInt8) (k : Nat) (h : k < l.length) : l[k] = l.getD k 0 := by
  rw [List.getD_eq_getElem?_getD, List.getElem?_eq_getElem h]; rfl
set_option maxRecDepth 100000 in
set_option maxHeartbeats 4000000 in
theorem Less_any (a b : List UInt8) (w : World) (ha : a.length ≤ maxLen) (hb : b.length ≤ maxLen) :
    Calls Try.prog 56 #[.string (str a), .string (str b)] w fun r w' => r = .returned (.bool (Op.bytesLess a b)) ∧ Below w.heap.size w w' := by
  unfold maxLen at ha hb
  have hsa := str_size a
  have hsb := str_size b
  go_enter Try.func56, Try.ntmps56
  go_wp2_with fail
  go_loopw [5] (fun i wr => ∃ k : Nat, k ≤ a.length ∧ k ≤ b.length ∧ i = .int .i64 (k : Int) ∧ Hid (a.take k = b.take k) ∧ Below w.heap.size w wr) (fun i _ => a.length - (intOf i).toNat)
  case atStart => exact ⟨0, Nat.zero_le _, Nat.zero_le _, rfl, Lib.hid rfl, Below.refl _ _⟩
  case round =>
    obtain ⟨k, hka, hkb, rfl, Hs, hB⟩ := hrel
    by_cases h1 : k < a.length
    rotate_left
    · have hd1 : decide ((k : Int) < (a.length : Int)) = false := decide_eq_false (by omega)
      have Hend := Lib.hid (less_end k Hs.out hka hkb (.inl (by omega)))
      go_wp2_with fail
      go_ret
      exact ⟨ret_b Hend.out.symm, hB⟩
    by_cases h2 : k < b.length
    rotate_left
    · have hd1 : decide ((k : Int) < (a.length : Int)) = true := decide_eq_true (by omega)
      have hd2 : decide ((k : Int) < (b.length : Int)) = false := decide_eq_false (by omega)
      have Hend := Lib.hid (less_end k Hs.out hka hkb (.inr (by omega)))
      go_wp2_with fail
      go_ret
      exact ⟨ret_b Hend.out.symm, hB⟩
    have hd1 : decide ((k : Int) < (a.length : Int)) = true := decide_eq_true (by omega)
    have hd2 : decide ((k : Int) < (b.length : Int)) = true := decide_eq_true (by omega)
    have Hx := Lib.hid (take_succ_b a k h1)
    have Hy := Lib.hid (take_succ_b b k h2)
    have Hst := Lib.hid (less_step k Hs.out h1 h2)
    have hax := getD_at a k h1
    have hby := getD_at b k h2
    have g1 : (k : Int) < (a.length : Int) := by omega
    have g2 : (k : Int) < (b.length : Int) := by omega
    have g0 : (0 : Int) ≤ (k : Int) := by omega
    obtain ⟨x, hx⟩ : ∃ x, x = a.getD k 0 := ⟨_, rfl⟩
    obtain ⟨y, hy⟩ : ∃ x, x = b.getD k 0 := ⟨_, rfl⟩
    rw [← hx] at Hx Hst hax
    rw [← hy] at Hy Hst hby
    clear hx hy
    by_cases hxy : x = y
    · subst hxy
      go_wp2_with fail
      (refine Ord.wp_region_ord [(false, 0), (false, 1), (false, 2), (false, 3), (false, 4), (false, 5), (false, 6)] (fun W => True) (by kernel_rfl) (by kernel_rfl) (by kernel_rfl) (by kernel_rfl) (by trivial) ?_; simp only [Ord.ordOps, List.filterMap_cons, List.filterMap_nil, List.getElem?_toArray, List.getElem?_cons_succ, List.getElem?_cons_zero, Option.map_some]; repeat (first | (refine Ord.wpOrd_skip ?_ ?_; (focus (go_simp; (try (intro h; cases h)); done)); simp only [Act.put, List.setIfInBounds_toArray, List.set_cons_zero, List.set_cons_succ]) | (refine Ord.wpOrd_take (v := ?_) ?_ ?_ ?_; rotate_left; (focus (go_simp; done)); (focus (intro w' hSw; (try dsimp only at hSw); go_simp; (try with_reducible rfl); done)); simp only [Act.put, List.setIfInBounds_toArray, List.set_cons_zero, List.set_cons_succ])))
      refine Ord.wpOrd_nil ?_
      go_wp2_with fail
      exact ⟨⟨k + 1, by omega, by omega, by go_num, Lib.hid (by rw [Hx.out, Hy.out, Hs.out]), hB.drew⟩, by simp only [intOf]; omega⟩
    · have hd3 : ((x.toNat : Int) != (y.toNat : Int)) = true := by rw [bne_iff_ne]; exact fun e => hxy (UInt8.toNat_inj.1 (by omega))
      have Hst2 := Lib.hid (show Op.bytesLess a b = decide (x.toNat < y.toNat) from Hst.out hxy)
      go_wp2_with fail
      (refine Ord.wp_region_ord [(false, 0), (false, 1), (false, 2), (false, 3), (false, 4), (false, 5), (false, 6)] (fun W => True) (by kernel_rfl) (by kernel_rfl) (by kernel_rfl) (by kernel_rfl) (by trivial) ?_; simp only [Ord.ordOps, List.filterMap_cons, List.filterMap_nil, List.getElem?_toArray, List.getElem?_cons_succ, List.getElem?_cons_zero, Option.map_some]; repeat (first | (refine Ord.wpOrd_skip ?_ ?_; (focus (go_simp; (try (intro h; cases h)); done)); simp only [Act.put, List.setIfInBounds_toArray, List.set_cons_zero, List.set_cons_succ]) | (refine Ord.wpOrd_take (v := ?_) ?_ ?_ ?_; rotate_left; (focus (go_simp; done)); (focus (intro w' hSw; (try dsimp only at hSw); go_simp; (try with_reducible rfl); done)); simp only [Act.put, List.setIfInBounds_toArray, List.set_cons_zero, List.set_cons_succ])))
      refine Ord.wpOrd_nil ?_
      go_wp2_with fail
      (refine Ord.wp_region_ord [(false, 0), (false, 1), (false, 2), (false, 3), (false, 4), (false, 5), (false, 6), (false, 7)] (fun W => True) (by kernel_rfl) (by kernel_rfl) (by kernel_rfl) (by kernel_rfl) (by trivial) ?_; simp only [Ord.ordOps, List.filterMap_cons, List.filterMap_nil, List.getElem?_toArray, List.getElem?_cons_succ, List.getElem?_cons_zero, Option.map_some]; repeat (first | (refine Ord.wpOrd_skip ?_ ?_; (focus (go_simp; (try (intro h; cases h)); done)); simp only [Act.put, List.setIfInBounds_toArray, List.set_cons_zero, List.set_cons_succ]) | (refine Ord.wpOrd_take (v := ?_) ?_ ?_ ?_; rotate_left; (focus (go_simp; done)); (focus (intro w' hSw; (try dsimp only at hSw); go_simp; (try with_reducible rfl); done)); simp only [Act.put, List.setIfInBounds_toArray, List.set_cons_zero, List.set_cons_succ])))
      refine Ord.wpOrd_nil ?_
      go_wp2_with fail
      go_ret
      exact ⟨ret_b Hst2.out.symm, hB.drew.drew⟩
set_option maxRecDepth 100000 in
set_option maxHeartbeats 16000000 in
theorem Rising_any (l : List L) (v : Value) (w : World) (hv : Rd w 3 v l.length (ls l)) (hk : ∀ e ∈ l, e.key.length ≤ maxLen) :
    Calls Try.prog 87 #[v] w fun r w' => r = .returned (.bool (rising l)) ∧ Below w.heap.size w w' := by
  obtain ⟨A, c, rfl, hc1, hc2, -⟩ := hv.slice_
  unfold maxLen at hc2
  have Hv := Lib.hid hv
  have Hk := Lib.hid hk
  clear hv hk
  go_enter Try.func87, Try.ntmps87
  go_wp2_with fail
  go_loopw [3] (fun i wr => ∃ k : Nat, k ≤ l.length ∧ i = .int .i64 (k : Int) ∧ Hid (risTo l k = true) ∧ Below w.heap.size w wr) (fun i _ => l.length - (intOf i).toNat)
  case atStart => exact ⟨0, by omega, rfl, Lib.hid rfl, Below.refl _ _⟩
  case round =>
    obtain ⟨k, hkl, rfl, Hs, hB⟩ := hrel
    by_cases hkn : k < l.length
    rotate_left
    · obtain rfl : k = l.length := by omega
      have hd1 : decide ((l.length : Int) < (l.length : Int)) = false := decide_eq_false (by omega)
      have hrs : rising l = true := Hs.out
      go_wp2_with fail
      go_ret
      exact ⟨by first | rfl | (rw [hrs]; rfl), hB⟩
    obtain ⟨b, off, rfl, hcell⟩ := ents_at (Hv.out.below hB) rfl (by omega)
    have Hcell := Lib.hid (fun W (h : Below wr.heap.size wr W) j (hj : j < l.length) => (show W.cell? ⟨b, off + j * 3, none⟩ = some (.string (str (l.getD j L.zero).key)) from cell_below h (hcell j hj).1))
    obtain ⟨c0, c1, c2⟩ := hcell k hkn
    have Hke := Lib.hid (show (l.getD k L.zero).key.length ≤ maxLen from Hk.out _ (by rw [List.getD_eq_getElem?_getD, List.getElem?_eq_getElem hkn]; exact List.getElem_mem hkn))
    have Hkj := Lib.hid (fun j (hj : j < l.length) => show (l.getD j L.zero).key.length ≤ maxLen from Hk.out _ (by rw [List.getD_eq_getElem?_getD, List.getElem?_eq_getElem hj]; exact List.getElem_mem hj))
    have Hat := Lib.hid (show risAt l k = ((l.getD k L.zero).right && (k == 0 || Op.bytesLess (l.getD (k - 1) L.zero).key (l.getD k L.zero).key)) from rfl)
    have Hnx := Lib.hid (show risTo l (k + 1) = risAt l k by rw [risTo, Hs.out, Bool.true_and])
    have Hfal := Lib.hid (show risTo l (k + 1) = false → rising l = false from fun h => risTo_false h (by omega))
    generalize l.getD k L.zero = e at Hat Hke c0 c1 c2
    obtain ⟨key, first, len⟩ := e
    obtain ⟨rt, hrt⟩ : ∃ r, r = L.right ⟨key, first, len⟩ := ⟨_, rfl⟩
    rw [← hrt] at Hat
    rw [L.right] at hrt
    simp only at hrt Hke Hat c0 c1 c2
    have Hrt := Lib.hid hrt
    have hss := str_size key
    clear hrt hcell
    have hd1 : decide ((k : Int) < (l.length : Int)) = true := decide_eq_true (by omega)
    go_upto_region 5 with fail
    have Hblk := Lib.hid (heap_alloc_new wr (.cells #[.string (str key), .int .i64 first, .int .i64 len] 87))
    have hBr := below_one wr (.cells #[.string (str key), .int .i64 first, .int .i64 len] 87)
    obtain ⟨W1, hW1⟩ : ∃ W, W = wr.alloc (.cells #[.string (str key), .int .i64 first, .int .i64 len] 87) := ⟨_, rfl⟩
    obtain ⟨g, hg⟩ : ∃ g, g = wr.heap.size := ⟨_, rfl⟩
    rw [← hW1] at Hblk hBr ⊢
    rw [← hg] at Hblk ⊢
    have Hcell1 := Lib.hid (fun W (h : Below W1.heap.size W1 W) j (hj : j < l.length) => Hcell.out W (below_go h hBr) j hj)
    have hB1 := below_go hBr hB
    clear hBr hB hW1 hg c0 c1 c2 Hcell
    by_cases g0 : 1 ≤ key.length
    rotate_left
    · have e0 : decide ((key.length : Int) < 1) = true := decide_eq_true (by omega)
      have hrs : rising l = false := Hfal.out (by rw [Hnx.out, Hat.out, Hrt.out, decide_eq_false g0]; simp)
      (refine Ord.wp_region_ord [(false, 0), (false, 1), (false, 2), (false, 3), (false, 4), (false, 5), (false, 6), (false, 7), (false, 8), (false, 9), (false, 10), (false, 11), (false, 12), (false, 13), (false, 14), (false, 15), (false, 16), (false, 17), (false, 18), (false, 19), (false, 20), (false, 21), (false, 22), (false, 23), (false, 24), (false, 25), (false, 26), (false, 27), (false, 28), (false, 29), (false, 30), (false, 31), (false, 32), (false, 33), (false, 34), (false, 35), (false, 36), (false, 37), (false, 38), (false, 39), (false, 40), (false, 41), (true, 42), (false, 43), (false, 44), (false, 45)] (fun W => (W.cell? ⟨g, 0, none⟩ = some (.string (str key)) ∧ W.cell? ⟨g, 1, none⟩ = some (.int .i64 first) ∧ W.cell? ⟨g, 2, none⟩ = some (.int .i64 len))) (by kernel_rfl) (by kernel_rfl) (by kernel_rfl) (by kernel_rfl) (by exact env_cells (blk_below Hblk.out (Below.refl _ _).drew)) ?_; simp only [Ord.ordOps, List.filterMap_cons, List.filterMap_nil, List.getElem?_toArray, List.getElem?_cons_succ, List.getElem?_cons_zero, Option.map_some]; repeat (first | (refine Ord.wpOrd_skip ?_ ?_; (focus (go_simp; (try (intro h; cases h)); done)); simp only [Act.put, List.setIfInBounds_toArray, List.set_cons_zero, List.set_cons_succ]) | (refine Ord.wpOrd_take (v := ?_) ?_ ?_ ?_; rotate_left; (focus (go_simp; done)); (focus (intro w' hSw; (try dsimp only at hSw); go_simp; (try with_reducible rfl); done)); simp only [Act.put, List.setIfInBounds_toArray, List.set_cons_zero, List.set_cons_succ])))
      refine Ord.wpOrd_nil ?_
      go_wp2_with fail
      go_ret
      exact ⟨by first | rfl | (rw [hrs]; rfl), hB1.drew⟩
    have e0 : decide ((key.length : Int) < 1) = false := decide_eq_false (by omega)
    by_cases g1 : key.length ≤ 40
    rotate_left
    · have e1 : decide ((40 : Int) < (key.length : Int)) = true := decide_eq_true (by omega)
      have hrs : rising l = false := Hfal.out (by rw [Hnx.out, Hat.out, Hrt.out, decide_eq_false g1]; simp)
      (refine Ord.wp_region_ord [(false, 0), (false, 1), (false, 2), (false, 3), (false, 4), (false, 5), (false, 6), (false, 7), (false, 8), (false, 9), (false, 10), (false, 11), (false, 12), (false, 13), (false, 14), (false, 15), (false, 16), (false, 17), (false, 18), (false, 19), (false, 20), (false, 21), (false, 22), (false, 23), (false, 24), (false, 25), (false, 26), (false, 27), (false, 28), (false, 29), (false, 30), (false, 31), (false, 32), (false, 33), (false, 34), (false, 35), (false, 36), (false, 37), (false, 38), (false, 39), (false, 40), (false, 41), (true, 42), (false, 43), (false, 44), (false, 45)] (fun W => (W.cell? ⟨g, 0, none⟩ = some (.string (str key)) ∧ W.cell? ⟨g, 1, none⟩ = some (.int .i64 first) ∧ W.cell? ⟨g, 2, none⟩ = some (.int .i64 len))) (by kernel_rfl) (by kernel_rfl) (by kernel_rfl) (by kernel_rfl) (by exact env_cells (blk_below Hblk.out (Below.refl _ _).drew)) ?_; simp only [Ord.ordOps, List.filterMap_cons, List.filterMap_nil, List.getElem?_toArray, List.getElem?_cons_succ, List.getElem?_cons_zero, Option.map_some]; repeat (first | (refine Ord.wpOrd_skip ?_ ?_; (focus (go_simp; (try (intro h; cases h)); done)); simp only [Act.put, List.setIfInBounds_toArray, List.set_cons_zero, List.set_cons_succ]) | (refine Ord.wpOrd_take (v := ?_) ?_ ?_ ?_; rotate_left; (focus (go_simp; done)); (focus (intro w' hSw; (try dsimp only at hSw); go_simp; (try with_reducible rfl); done)); simp only [Act.put, List.setIfInBounds_toArray, List.set_cons_zero, List.set_cons_succ])))
      refine Ord.wpOrd_nil ?_
      go_wp2_with fail
      go_ret
      exact ⟨by first | rfl | (rw [hrs]; rfl), hB1.drew⟩
    have e1 : decide ((40 : Int) < (key.length : Int)) = false := decide_eq_false (by omega)
    by_cases g2 : 0 ≤ first
    rotate_left
    · have e2 : decide (first < 0) = true := decide_eq_true (by omega)
      have hrs : rising l = false := Hfal.out (by rw [Hnx.out, Hat.out, Hrt.out, decide_eq_false g2]; simp)
      (refine Ord.wp_region_ord [(false, 0), (false, 1), (false, 2), (false, 3), (false, 4), (false, 5), (false, 6), (false, 7), (false, 8), (false, 9), (false, 10), (false, 11), (false, 12), (false, 13), (false, 14), (false, 15), (false, 16), (false, 17), (false, 18), (false, 19), (false, 20), (false, 21), (false, 22), (false, 23), (false, 24), (false, 25), (false, 26), (false, 27), (false, 28), (false, 29), (false, 30), (false, 31), (false, 32), (false, 33), (false, 34), (false, 35), (false, 36), (false, 37), (false, 38), (false, 39), (false, 40), (false, 41), (true, 42), (false, 43), (false, 44), (false, 45)] (fun W => (W.cell? ⟨g, 0, none⟩ = some (.string (str key)) ∧ W.cell? ⟨g, 1, none⟩ = some (.int .i64 first) ∧ W.cell? ⟨g, 2, none⟩ = some (.int .i64 len))) (by kernel_rfl) (by kernel_rfl) (by kernel_rfl) (by kernel_rfl) (by exact env_cells (blk_below Hblk.out (Below.refl _ _).drew)) ?_; simp only [Ord.ordOps, List.filterMap_cons, List.filterMap_nil, List.getElem?_toArray, List.getElem?_cons_succ, List.getElem?_cons_zero, Option.map_some]; repeat (first | (refine Ord.wpOrd_skip ?_ ?_; (focus (go_simp; (try (intro h; cases h)); done)); simp only [Act.put, List.setIfInBounds_toArray, List.set_cons_zero, List.set_cons_succ]) | (refine Ord.wpOrd_take (v := ?_) ?_ ?_ ?_; rotate_left; (focus (go_simp; done)); (focus (intro w' hSw; (try dsimp only at hSw); go_simp; (try with_reducible rfl); done)); simp only [Act.put, List.setIfInBounds_toArray, List.set_cons_zero, List.set_cons_succ])))
      refine Ord.wpOrd_nil ?_
      go_wp2_with fail
      go_ret
      exact ⟨by first | rfl | (rw [hrs]; rfl), hB1.drew⟩
    have e2 : decide (first < 0) = false := decide_eq_false (by omega)
    by_cases g3 : first < 4096
    rotate_left
    · have e3 : decide ((4096 : Int) ≤ first) = true := decide_eq_true (by omega)
      have hrs : rising l = false := Hfal.out (by rw [Hnx.out, Hat.out, Hrt.out, decide_eq_false g3]; simp)
      (refine Ord.wp_region_ord [(false, 0), (false, 1), (false, 2), (false, 3), (false, 4), (false, 5), (false, 6), (false, 7), (false, 8), (false, 9), (false, 10), (false, 11), (false, 12), (false, 13), (false, 14), (false, 15), (false, 16), (false, 17), (false, 18), (false, 19), (false, 20), (false, 21), (false, 22), (false, 23), (false, 24), (false, 25), (false, 26), (false, 27), (false, 28), (false, 29), (false, 30), (false, 31), (false, 32), (false, 33), (false, 34), (false, 35), (false, 36), (false, 37), (false, 38), (false, 39), (false, 40), (false, 41), (true, 42), (false, 43), (false, 44), (false, 45)] (fun W => (W.cell? ⟨g, 0, none⟩ = some (.string (str key)) ∧ W.cell? ⟨g, 1, none⟩ = some (.int .i64 first) ∧ W.cell? ⟨g, 2, none⟩ = some (.int .i64 len))) (by kernel_rfl) (by kernel_rfl) (by kernel_rfl) (by kernel_rfl) (by exact env_cells (blk_below Hblk.out (Below.refl _ _).drew)) ?_; simp only [Ord.ordOps, List.filterMap_cons, List.filterMap_nil, List.getElem?_toArray, List.getElem?_cons_succ, List.getElem?_cons_zero, Option.map_some]; repeat (first | (refine Ord.wpOrd_skip ?_ ?_; (focus (go_simp; (try (intro h; cases h)); done)); simp only [Act.put, List.setIfInBounds_toArray, List.set_cons_zero, List.set_cons_succ]) | (refine Ord.wpOrd_take (v := ?_) ?_ ?_ ?_; rotate_left; (focus (go_simp; done)); (focus (intro w' hSw; (try dsimp only at hSw); go_simp; (try with_reducible rfl); done)); simp only [Act.put, List.setIfInBounds_toArray, List.set_cons_zero, List.set_cons_succ])))
      refine Ord.wpOrd_nil ?_
      go_wp2_with fail
      go_ret
      exact ⟨by first | rfl | (rw [hrs]; rfl), hB1.drew⟩
    have e3 : decide ((4096 : Int) ≤ first) = false := decide_eq_false (by omega)
    by_cases g4 : 0 ≤ len
    rotate_left
    · have e4 : decide (len < 0) = true := decide_eq_true (by omega)
      have hrs : rising l = false := Hfal.out (by rw [Hnx.out, Hat.out, Hrt.out, decide_eq_false g4]; simp)
      (refine Ord.wp_region_ord [(false, 0), (false, 1), (false, 2), (false, 3), (false, 4), (false, 5), (false, 6), (false, 7), (false, 8), (false, 9), (false, 10), (false, 11), (false, 12), (false, 13), (false, 14), (false, 15), (false, 16), (false, 17), (false, 18), (false, 19), (false, 20), (false, 21), (false, 22), (false, 23), (false, 24), (false, 25), (false, 26), (false, 27), (false, 28), (false, 29), (false, 30), (false, 31), (false, 32), (false, 33), (false, 34), (false, 35), (false, 36), (false, 37), (false, 38), (false, 39), (false, 40), (false, 41), (true, 42), (false, 43), (false, 44), (false, 45)] (fun W => (W.cell? ⟨g, 0, none⟩ = some (.string (str key)) ∧ W.cell? ⟨g, 1, none⟩ = some (.int .i64 first) ∧ W.cell? ⟨g, 2, none⟩ = some (.int .i64 len))) (by kernel_rfl) (by kernel_rfl) (by kernel_rfl) (by kernel_rfl) (by exact env_cells (blk_below Hblk.out (Below.refl _ _).drew)) ?_; simp only [Ord.ordOps, List.filterMap_cons, List.filterMap_nil, List.getElem?_toArray, List.getElem?_cons_succ, List.getElem?_cons_zero, Option.map_some]; repeat (first | (refine Ord.wpOrd_skip ?_ ?_; (focus (go_simp; (try (intro h; cases h)); done)); simp only [Act.put, List.setIfInBounds_toArray, List.set_cons_zero, List.set_cons_succ]) | (refine Ord.wpOrd_take (v := ?_) ?_ ?_ ?_; rotate_left; (focus (go_simp; done)); (focus (intro w' hSw; (try dsimp only at hSw); go_simp; (try with_reducible rfl); done)); simp only [Act.put, List.setIfInBounds_toArray, List.set_cons_zero, List.set_cons_succ])))
      refine Ord.wpOrd_nil ?_
      go_wp2_with fail
      go_ret
      exact ⟨by first | rfl | (rw [hrs]; rfl), hB1.drew⟩
    have e4 : decide (len < 0) = false := decide_eq_false (by omega)
    by_cases g5 : len ≤ 8192
    rotate_left
    · have e5 : decide ((8192 : Int) < len) = true := decide_eq_true (by omega)
      have hrs : rising l = false := Hfal.out (by rw [Hnx.out, Hat.out, Hrt.out, decide_eq_false g5]; simp)
      (refine Ord.wp_region_ord [(false, 0), (false, 1), (false, 2), (false, 3), (false, 4), (false, 5), (false, 6), (false, 7), (false, 8), (false, 9), (false, 10), (false, 11), (false, 12), (false, 13), (false, 14), (false, 15), (false, 16), (false, 17), (false, 18), (false, 19), (false, 20), (false, 21), (false, 22), (false, 23), (false, 24), (false, 25), (false, 26), (false, 27), (false, 28), (false, 29), (false, 30), (false, 31), (false, 32), (false, 33), (false, 34), (false, 35), (false, 36), (false, 37), (false, 38), (false, 39), (false, 40), (false, 41), (true, 42), (false, 43), (false, 44), (false, 45)] (fun W => (W.cell? ⟨g, 0, none⟩ = some (.string (str key)) ∧ W.cell? ⟨g, 1, none⟩ = some (.int .i64 first) ∧ W.cell? ⟨g, 2, none⟩ = some (.int .i64 len))) (by kernel_rfl) (by kernel_rfl) (by kernel_rfl) (by kernel_rfl) (by exact env_cells (blk_below Hblk.out (Below.refl _ _).drew)) ?_; simp only [Ord.ordOps, List.filterMap_cons, List.filterMap_nil, List.getElem?_toArray, List.getElem?_cons_succ, List.getElem?_cons_zero, Option.map_some]; repeat (first | (refine Ord.wpOrd_skip ?_ ?_; (focus (go_simp; (try (intro h; cases h)); done)); simp only [Act.put, List.setIfInBounds_toArray, List.set_cons_zero, List.set_cons_succ]) | (refine Ord.wpOrd_take (v := ?_) ?_ ?_ ?_; rotate_left; (focus (go_simp; done)); (focus (intro w' hSw; (try dsimp only at hSw); go_simp; (try with_reducible rfl); done)); simp only [Act.put, List.setIfInBounds_toArray, List.set_cons_zero, List.set_cons_succ])))
      refine Ord.wpOrd_nil ?_
      go_wp2_with fail
      go_ret
      exact ⟨by first | rfl | (rw [hrs]; rfl), hB1.drew⟩
    have e5 : decide ((8192 : Int) < len) = false := decide_eq_false (by omega)
    have hrt1 : rt = true := by rw [Hrt.out, decide_eq_true g0, decide_eq_true g1, decide_eq_true g2, decide_eq_true g3, decide_eq_true g4, decide_eq_true g5]; rfl
    subst hrt1
    clear Hrt
    cases k with
    | zero =>
      have Hn1 := Lib.hid (show risTo l (0 + 1) = true by rw [Hnx.out, Hat.out]; rfl)
      (refine Ord.wp_region_ord [(false, 0), (false, 1), (false, 2), (false, 3), (false, 4), (false, 5), (false, 6), (false, 7), (false, 8), (false, 9), (false, 10), (false, 11), (false, 12), (false, 13), (false, 14), (false, 15), (false, 16), (false, 17), (false, 18), (false, 19), (false, 20), (false, 21), (false, 22), (false, 23), (false, 24), (false, 25), (false, 26), (false, 27), (false, 28), (false, 29), (false, 30), (false, 31), (false, 32), (false, 33), (false, 34), (false, 35), (false, 36), (false, 37), (false, 38), (false, 39), (false, 40), (false, 41), (true, 42), (false, 43), (false, 44), (false, 45)] (fun W => (W.cell? ⟨g, 0, none⟩ = some (.string (str key)) ∧ W.cell? ⟨g, 1, none⟩ = some (.int .i64 first) ∧ W.cell? ⟨g, 2, none⟩ = some (.int .i64 len))) (by kernel_rfl) (by kernel_rfl) (by kernel_rfl) (by kernel_rfl) (by exact env_cells (blk_below Hblk.out (Below.refl _ _).drew)) ?_; simp only [Ord.ordOps, List.filterMap_cons, List.filterMap_nil, List.getElem?_toArray, List.getElem?_cons_succ, List.getElem?_cons_zero, Option.map_some]; repeat (first | (refine Ord.wpOrd_skip ?_ ?_; (focus (go_simp; (try (intro h; cases h)); done)); simp only [Act.put, List.setIfInBounds_toArray, List.set_cons_zero, List.set_cons_succ]) | (refine Ord.wpOrd_take (v := ?_) ?_ ?_ ?_; rotate_left; (focus (go_simp; done)); (focus (intro w' hSw; (try dsimp only at hSw); go_simp; (try with_reducible rfl); done)); simp only [Act.put, List.setIfInBounds_toArray, List.set_cons_zero, List.set_cons_succ])))
      refine Ord.wpOrd_nil ?_
      go_wp2_with fail
      exact ⟨⟨1, by omega, by go_num, Hn1, hB1.drew⟩, by simp only [intOf]; omega⟩
    | succ j =>
      have hcj := fun W (h : Below W1.heap.size W1 W) => Hcell1.out W h j (by omega)
      have hlk := Hkj.out j (by omega)
      rw [Nat.add_sub_cancel] at Hat
      generalize (l.getD j L.zero).key = pk at hcj Hat hlk
      have Hcj := Lib.hid hcj
      have Hle := Lib.hid (fun W => Less_any pk key W hlk Hke.out)
      clear hcj hlk
      generalize hls : Op.bytesLess pk key = le at Hat Hle
      have hj1 : IntKind.i64.wrap (j : Int) = (j : Int) := by rw [IntKind.wrap_i64]; omega
      have hjn : j < l.length := by omega
      have hjn2 : (j : Int) < (l.length : Int) := by omega
      have hj0 : (0 : Int) ≤ (j : Int) := by omega
      have hj2 : decide ((0 : Int) < (j : Int) + 1) = true := decide_eq_true (by omega)
      clear hls
      cases le with
      | true =>
        have Hn1 := Lib.hid (show risTo l (j + 1 + 1) = true by rw [Hnx.out, Hat.out]; simp)
        (refine Ord.wp_region_ord [(false, 0), (false, 1), (false, 2), (false, 3), (false, 4), (false, 5), (false, 6), (false, 7), (false, 8), (false, 9), (false, 10), (false, 11), (false, 12), (false, 13), (false, 14), (false, 15), (false, 16), (false, 17), (false, 18), (false, 19), (false, 20), (false, 21), (false, 22), (false, 23), (false, 24), (false, 25), (false, 26), (false, 27), (false, 28), (false, 29), (false, 30), (false, 31), (false, 32), (false, 33), (false, 34), (false, 35), (false, 36), (false, 37), (false, 38), (false, 39), (false, 40), (false, 41), (true, 42), (false, 43), (false, 44), (false, 45)] (fun W => (W.cell? ⟨g, 0, none⟩ = some (.string (str key)) ∧ W.cell? ⟨g, 1, none⟩ = some (.int .i64 first) ∧ W.cell? ⟨g, 2, none⟩ = some (.int .i64 len)) ∧ W.cell? ⟨b, off + j * 3, none⟩ = some (.string (str pk))) (by kernel_rfl) (by kernel_rfl) (by kernel_rfl) (by kernel_rfl) (by exact ⟨env_cells (blk_below Hblk.out (Below.refl _ _).drew), Hcj.out _ (Below.refl _ _).drew⟩) ?_; simp only [Ord.ordOps, List.filterMap_cons, List.filterMap_nil, List.getElem?_toArray, List.getElem?_cons_succ, List.getElem?_cons_zero, Option.map_some]; repeat (first | (refine Ord.wpOrd_skip ?_ ?_; (focus (go_simp; (try (intro h; cases h)); done)); simp only [Act.put, List.setIfInBounds_toArray, List.set_cons_zero, List.set_cons_succ]) | (refine Ord.wpOrd_take (v := ?_) ?_ ?_ ?_; rotate_left; (focus (go_simp; done)); (focus (intro w' hSw; (try dsimp only at hSw); go_simp; (try with_reducible rfl); done)); simp only [Act.put, List.setIfInBounds_toArray, List.set_cons_zero, List.set_cons_succ])))
        (refine Ord.wpOrd_call ?_ (fun K hK => ?_); (focus (go_simp; done)); go_simp)
        go_at_call 56
        refine (Hle.out _).mono ?_
        rintro r w5 ⟨rfl, hb5⟩
        have hb5' := below_go hb5 (Below.refl _ _).drew
        have hB5 := below_go hb5' hB1
        (refine hK _ _ (by exact ⟨env_cells (blk_below Hblk.out hb5'), Hcj.out _ hb5'⟩) ?_; clear hK K; (try simp only [Act.put, List.setIfInBounds_toArray, List.set_cons_zero, List.set_cons_succ]); repeat (first | (refine Ord.wpOrd_skip ?_ ?_; (focus (go_simp; (try (intro h; cases h)); done)); simp only [Act.put, List.setIfInBounds_toArray, List.set_cons_zero, List.set_cons_succ]) | (refine Ord.wpOrd_take (v := ?_) ?_ ?_ ?_; rotate_left; (focus (go_simp; done)); (focus (intro w' hSw; (try dsimp only at hSw); go_simp; (try with_reducible rfl); done)); simp only [Act.put, List.setIfInBounds_toArray, List.set_cons_zero, List.set_cons_succ])))
        refine Ord.wpOrd_nil ?_
        go_wp2_with fail
        exact ⟨⟨j + 1 + 1, by omega, by go_num, Hn1, hB5⟩, by simp only [intOf]; omega⟩
      | false =>
        have hrs : rising l = false := Hfal.out (by rw [Hnx.out, Hat.out]; simp)
        (refine Ord.wp_region_ord [(false, 0), (false, 1), (false, 2), (false, 3), (false, 4), (false, 5), (false, 6), (false, 7), (false, 8), (false, 9), (false, 10), (false, 11), (false, 12), (false, 13), (false, 14), (false, 15), (false, 16), (false, 17), (false, 18), (false, 19), (false, 20), (false, 21), (false, 22), (false, 23), (false, 24), (false, 25), (false, 26), (false, 27), (false, 28), (false, 29), (false, 30), (false, 31), (false, 32), (false, 33), (false, 34), (false, 35), (false, 36), (false, 37), (false, 38), (false, 39), (false, 40), (false, 41), (true, 42), (false, 43), (false, 44), (false, 45)] (fun W => (W.cell? ⟨g, 0, none⟩ = some (.string (str key)) ∧ W.cell? ⟨g, 1, none⟩ = some (.int .i64 first) ∧ W.cell? ⟨g, 2, none⟩ = some (.int .i64 len)) ∧ W.cell? ⟨b, off + j * 3, none⟩ = some (.string (str pk))) (by kernel_rfl) (by kernel_rfl) (by kernel_rfl) (by kernel_rfl) (by exact ⟨env_cells (blk_below Hblk.out (Below.refl _ _).drew), Hcj.out _ (Below.refl _ _).drew⟩) ?_; simp only [Ord.ordOps, List.filterMap_cons, List.filterMap_nil, List.getElem?_toArray, List.getElem?_cons_succ, List.getElem?_cons_zero, Option.map_some]; repeat (first | (refine Ord.wpOrd_skip ?_ ?_; (focus (go_simp; (try (intro h; cases h)); done)); simp only [Act.put, List.setIfInBounds_toArray, List.set_cons_zero, List.set_cons_succ]) | (refine Ord.wpOrd_take (v := ?_) ?_ ?_ ?_; rotate_left; (focus (go_simp; done)); (focus (intro w' hSw; (try dsimp only at hSw); go_simp; (try with_reducible rfl); done)); simp only [Act.put, List.setIfInBounds_toArray, List.set_cons_zero, List.set_cons_succ])))
        (refine Ord.wpOrd_call ?_ (fun K hK => ?_); (focus (go_simp; done)); go_simp)
        go_at_call 56
        refine (Hle.out _).mono ?_
        rintro r w5 ⟨rfl, hb5⟩
        have hb5' := below_go hb5 (Below.refl _ _).drew
        have hB5 := below_go hb5' hB1
        (refine hK _ _ (by exact ⟨env_cells (blk_below Hblk.out hb5'), Hcj.out _ hb5'⟩) ?_; clear hK K; (try simp only [Act.put, List.setIfInBounds_toArray, List.set_cons_zero, List.set_cons_succ]); repeat (first | (refine Ord.wpOrd_skip ?_ ?_; (focus (go_simp; (try (intro h; cases h)); done)); simp only [Act.put, List.setIfInBounds_toArray, List.set_cons_zero, List.set_cons_succ]) | (refine Ord.wpOrd_take (v := ?_) ?_ ?_ ?_; rotate_left; (focus (go_simp; done)); (focus (intro w' hSw; (try dsimp only at hSw); go_simp; (try with_reducible rfl); done)); simp only [Act.put, List.setIfInBounds_toArray, List.set_cons_zero, List.set_cons_succ])))
        refine Ord.wpOrd_nil ?_
        go_wp2_with fail
        go_ret
        exact ⟨by first | rfl | (rw [hrs]; rfl), hB5⟩
set_option maxRecDepth 100000 in
set_option maxHeartbeats 4000000 in
theorem rRight_any (l : List L) (v : Value) (w : World) (hv : Rd w 3 v l.length (ls l)) (hn : l.length ≤ 1000000) (hk : ∀ e ∈ l, e.key.length ≤ 1000000) :
    Calls Try.prog 17 #[v] w fun r w' => r = .returned (.bool (right l)) ∧ Below w.heap.size w w' := by
  have hri := Rising_any l v w hv (fun e he => by have := hk e he; unfold maxLen; omega)
  have hsi := fun w' (h : Below w.heap.size w w') => rSize_any l v w' (hv.below h) hn hk
  have hr : right l = (rising l && decide (sizeTo l l.length ≤ 256)) := rfl
  generalize rising l = rt at hri hr
  generalize sizeTo l l.length = z at hsi hr
  rw [hr]
  obtain ⟨A, c, rfl, hc1, hc2, -⟩ := hv.slice_
  have Hri := Lib.hid hri
  have Hsi := Lib.hid hsi
  clear hri hsi hr hv hk
  cases rt with
  | false =>
    go_enter Try.func17, Try.ntmps17
    go_wp2_with (go_at_call 87; refine Hri.out.mono ?_; rintro r w2 ⟨rfl, hB⟩)
    go_ret
    exact ⟨rfl, hB⟩
  | true =>
    by_cases hz : z ≤ 256
    · have hd : decide ((z : Int) ≤ 256) = true := decide_eq_true (by omega)
      rw [decide_eq_true hz]
      go_enter Try.func17, Try.ntmps17
      go_wp2_with (first
        | (go_at_call 87; refine Hri.out.mono ?_; rintro r w2 ⟨rfl, hB⟩)
        | (go_at_call 21; refine (Hsi.out _ hB).mono ?_; rintro r w3 ⟨rfl, hB3⟩; have hB4 := below_go hB3 hB))
      go_ret
      exact ⟨rfl, hB4⟩
    · have hd : decide ((z : Int) ≤ 256) = false := decide_eq_false (by omega)
      rw [decide_eq_false hz]
      go_enter Try.func17, Try.ntmps17
      go_wp2_with (first
        | (go_at_call 87; refine Hri.out.mono ?_; rintro r w2 ⟨rfl, hB⟩)
        | (go_at_call 21; refine (Hsi.out _ hB).mono ?_; rintro r w3 ⟨rfl, hB3⟩; have hB4 := below_go hB3 hB))
      go_ret
      exact ⟨rfl, hB4⟩
end Go.Proofs.Ytcjabfdjngekfaa.Leaf
