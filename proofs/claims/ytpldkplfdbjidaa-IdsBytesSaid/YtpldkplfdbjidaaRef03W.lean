/- The reference of ids, walked: Less, Has, With, Of, Same. -/
import Derived.Test.YtpldkplfdbjidaaRef03Pure
import Derived.Test.YtpldkplfdbjidaaIdsW
import Derived.Test.YtpldkplfdbjidaaShaNobody
import Derived.Test.YtpldkplfdbjidaaEqF
set_option linter.unusedVariables false
set_option linter.unusedSimpArgs false
namespace Go.Proofs.Ytpldkplfdbjidaa.Ids
open Go.RowKit Go.Proofs.Ytpldkplfdbjidaa.Wd Go.Proofs.Ytpldkplfdbjidaa.Use Go.Proofs.Ytpldkplfdbjidaa.Lay

theorem bs_at (l : List UInt8) (k : Nat) (h : k < l.length) : (bs l)[k]? = some (.int .u8 ((l.getD k 0).toNat : Int)) := by
  simp [bs, List.getElem?_eq_getElem h]
theorem take_same {a b : List UInt8} {k : Nat} (ha : k < a.length) (hb : k < b.length) (h : a.take k = b.take k) (e : a.getD k 0 = b.getD k 0) : a.take (k + 1) = b.take (k + 1) := by
  rw [List.take_succ_eq_append_getElem ha, List.take_succ_eq_append_getElem hb, h]
  rw [List.getD_eq_getElem?_getD, List.getD_eq_getElem?_getD, List.getElem?_eq_getElem ha, List.getElem?_eq_getElem hb] at e
  simp only [Option.getD_some] at e
  rw [e]
theorem lt_at' {a b : Id} (k : Nat) (ha : k < a.length) (hb : k < b.length) (he : a.take k = b.take k) (hne : a.getD k 0 ≠ b.getD k 0) : lt a b = decide ((a.getD k 0).toNat < (b.getD k 0).toNat) := by
  rw [List.getD_eq_getElem?_getD, List.getD_eq_getElem?_getD, List.getElem?_eq_getElem ha, List.getElem?_eq_getElem hb] at *
  simp only [Option.getD_some] at *
  rw [lt_at k ha hb he hne]; rfl
set_option maxRecDepth 100000 in
set_option maxHeartbeats 4000000 in
theorem rLess_any (a b : Id) (ha : a.length = 32) (hb : b.length = 32) (w : World) :
    Calls Try.prog 17 #[.agg (bs a).toArray, .agg (bs b).toArray] w fun e w' => e = .returned (.bool (lt a b)) ∧ Below w.heap.size w w' := by
  obtain ⟨A, hA⟩ : ∃ A, A = bs a := ⟨_, rfl⟩
  obtain ⟨B, hB⟩ : ∃ B, B = bs b := ⟨_, rfl⟩
  obtain ⟨W0, hW0⟩ : ∃ W, W = (w.alloc (.cells A.toArray 22)).alloc (.cells B.toArray 22) := ⟨_, rfl⟩
  have Hc := Lib.hid (show ∀ W, Below W0.heap.size W0 W → ∀ k, k < 32 → W.cell? ⟨w.heap.size, k, none⟩ = some (.int .u8 ((a.getD k 0).toNat : Int)) ∧ W.cell? ⟨w.heap.size + 1, k, none⟩ = some (.int .u8 ((b.getD k 0).toNat : Int)) from by
    intro W h k hk
    rw [hW0] at h
    have h1 := blk_below (blk_alloc (heap_alloc_new w (.cells A.toArray 22)) (.cells B.toArray 22)) h
    have h2 := blk_below (alloc_at w (.cells A.toArray 22) (.cells B.toArray 22)) h
    rw [blk_cell h1 k, blk_cell h2 k]
    simp only [List.getElem?_toArray]
    rw [hA, hB, bs_at a k (by omega), bs_at b k (by omega)]
    exact ⟨rfl, rfl⟩)
  have hb0 : Below w.heap.size w W0 := by rw [hW0]; exact below_two _ _ _
  have HW0 := Lib.hid hW0
  rw [← hA, ← hB]
  have Ha := Lib.hid ha
  have Hb := Lib.hid hb
  clear hW0 hA hB ha hb
  go_enter Try.func17, Try.ntmps17
  go_upto_region 2 with fail
  rw [← HW0.out]
  go_loopw [5] (fun i_ wr => ∃ k : Nat, k ≤ 32 ∧ i_ = .int .i64 (k : Int) ∧ Hid (a.take k = b.take k) ∧ Below W0.heap.size W0 wr) (fun i_ _ => 32 - (intOf i_).toNat)
  case atStart => exact ⟨0, by omega, rfl, Lib.hid rfl, Below.refl _ _⟩
  case round =>
    obtain ⟨k, hk, rfl, He, hB⟩ := hrel
    by_cases hk32 : k < 32
    rotate_left
    · obtain rfl : k = 32 := by omega
      have Hf := Lib.hid (show lt a b = false from by
        have h := He.out
        rw [List.take_of_length_le (by rw [Ha.out]; exact Nat.le_refl _), List.take_of_length_le (by rw [Hb.out]; exact Nat.le_refl _)] at h
        rw [h]; exact Leaf.lt_irr b)
      go_wp2_with fail
      go_ret
      exact ⟨ret_b Hf.out.symm, below_go hB hb0⟩
    have hd : decide ((k : Int) < 32) = true := decide_eq_true (by omega)
    have i0 : (0 : Int) ≤ (k : Int) := by omega
    have i1 : (k : Int) < 32 := by omega
    obtain ⟨c1, c2⟩ := Hc.out wr hB k hk32
    have Htk := Lib.hid (take_same (a := a) (b := b) (k := k) (by rw [Ha.out]; exact hk32) (by rw [Hb.out]; exact hk32) He.out)
    have Hla := Lib.hid (lt_at' (a := a) (b := b) k (by rw [Ha.out]; exact hk32) (by rw [Hb.out]; exact hk32) He.out)
    generalize a.getD k 0 = x at c1 Htk Hla
    generalize b.getD k 0 = y at c2 Htk Hla
    by_cases hxy : x = y
    · subst hxy
      go_wp2_with fail
      (refine Ord.wp_region_ord [(false, 0), (false, 1), (false, 2), (false, 3), (false, 4), (false, 5), (false, 6)] (fun W => W.cell? ⟨w.heap.size, k, none⟩ = some (.int .u8 (x.toNat : Int)) ∧ W.cell? ⟨w.heap.size + 1, k, none⟩ = some (.int .u8 (x.toNat : Int))) (by kernel_rfl) (by kernel_rfl) (by kernel_rfl) (by kernel_rfl) (by exact ⟨c1, c2⟩) ?_; simp only [Ord.ordOps, List.filterMap_cons, List.filterMap_nil, List.getElem?_toArray, List.getElem?_cons_succ, List.getElem?_cons_zero, Option.map_some]; repeat (first | (refine Ord.wpOrd_skip ?_ ?_; (focus (go_simp; (try (intro h; cases h)); done)); simp only [Act.put, List.setIfInBounds_toArray, List.set_cons_zero, List.set_cons_succ]) | (refine Ord.wpOrd_take (v := ?_) ?_ ?_ ?_; rotate_left; (focus (go_simp; done)); (focus (intro w' hSw; (try dsimp only at hSw); go_simp; (try with_reducible rfl); done)); simp only [Act.put, List.setIfInBounds_toArray, List.set_cons_zero, List.set_cons_succ])))
      refine Ord.wpOrd_nil ?_
      go_wp2_with fail
      exact ⟨⟨k + 1, by omega, by go_num, Lib.hid (Htk.out trivial), hB.drew⟩, by simp only [intOf]; omega⟩
    · have hne : ((x.toNat : Int) != (y.toNat : Int)) = true := by rw [bne_iff_ne]; exact fun e => hxy (UInt8.toNat_inj.1 (by omega))
      have Hl := Lib.hid (Hla.out hxy)
      go_wp2_with fail
      (refine Ord.wp_region_ord [(false, 0), (false, 1), (false, 2), (false, 3), (false, 4), (false, 5), (false, 6)] (fun W => W.cell? ⟨w.heap.size, k, none⟩ = some (.int .u8 (x.toNat : Int)) ∧ W.cell? ⟨w.heap.size + 1, k, none⟩ = some (.int .u8 (y.toNat : Int))) (by kernel_rfl) (by kernel_rfl) (by kernel_rfl) (by kernel_rfl) (by exact ⟨c1, c2⟩) ?_; simp only [Ord.ordOps, List.filterMap_cons, List.filterMap_nil, List.getElem?_toArray, List.getElem?_cons_succ, List.getElem?_cons_zero, Option.map_some]; repeat (first | (refine Ord.wpOrd_skip ?_ ?_; (focus (go_simp; (try (intro h; cases h)); done)); simp only [Act.put, List.setIfInBounds_toArray, List.set_cons_zero, List.set_cons_succ]) | (refine Ord.wpOrd_take (v := ?_) ?_ ?_ ?_; rotate_left; (focus (go_simp; done)); (focus (intro w' hSw; (try dsimp only at hSw); go_simp; (try with_reducible rfl); done)); simp only [Act.put, List.setIfInBounds_toArray, List.set_cons_zero, List.set_cons_succ])))
      refine Ord.wpOrd_nil ?_
      go_wp2_with fail
      (refine Ord.wp_region_ord [(false, 0), (false, 1), (false, 2), (false, 3), (false, 4), (false, 5), (false, 6), (false, 7)] (fun W => W.cell? ⟨w.heap.size, k, none⟩ = some (.int .u8 (x.toNat : Int)) ∧ W.cell? ⟨w.heap.size + 1, k, none⟩ = some (.int .u8 (y.toNat : Int))) (by kernel_rfl) (by kernel_rfl) (by kernel_rfl) (by kernel_rfl) (by exact ⟨c1, c2⟩) ?_; simp only [Ord.ordOps, List.filterMap_cons, List.filterMap_nil, List.getElem?_toArray, List.getElem?_cons_succ, List.getElem?_cons_zero, Option.map_some]; repeat (first | (refine Ord.wpOrd_skip ?_ ?_; (focus (go_simp; (try (intro h; cases h)); done)); simp only [Act.put, List.setIfInBounds_toArray, List.set_cons_zero, List.set_cons_succ]) | (refine Ord.wpOrd_take (v := ?_) ?_ ?_ ?_; rotate_left; (focus (go_simp; done)); (focus (intro w' hSw; (try dsimp only at hSw); go_simp; (try with_reducible rfl); done)); simp only [Act.put, List.setIfInBounds_toArray, List.set_cons_zero, List.set_cons_succ])))
      refine Ord.wpOrd_nil ?_
      go_wp2_with fail
      go_ret
      exact ⟨ret_b Hl.out.symm, below_go hB.drew.drew hb0⟩
end Go.Proofs.Ytpldkplfdbjidaa.Ids
