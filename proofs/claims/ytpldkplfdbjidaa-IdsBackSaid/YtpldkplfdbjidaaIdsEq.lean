/- Ids' walks: two lists of ids compared. -/
import Derived.Test.YtpldkplfdbjidaaIdsW
import Derived.Test.YtpldkplfdbjidaaIdsR
import Derived.Test.YtpldkplfdbjidaaShaNobody
set_option linter.unusedVariables false
set_option linter.unusedSimpArgs false
namespace Go.Proofs.Ytpldkplfdbjidaa.Ids
open Go.RowKit Go.Proofs.Ytpldkplfdbjidaa.Wd Go.Proofs.Ytpldkplfdbjidaa.Use Go.Proofs.Ytpldkplfdbjidaa.Lay

theorem take_succ_i (l : List Ids.Id) (k : Nat) (h : k < l.length) : l.take (k + 1) = l.take k ++ [l.getD k []] := by
  rw [List.take_succ_eq_append_getElem h, List.getD_eq_getElem?_getD, List.getElem?_eq_getElem h]; rfl
theorem take_ne_i {l m : List Ids.Id} {k : Nat} (h : (l.getD k [] == m.getD k []) = false) : (l == m) = false := by
  rw [beq_eq_false_iff_ne]; rintro rfl; simp at h
set_option maxRecDepth 100000 in
set_option maxHeartbeats 4000000 in
theorem idsEq_any (l1 l2 : List Ids.Id) (w1 : W32 l1) (w2 : W32 l2) (v1 v2 : Value) (w : World) (h1 : Rd w 32 v1 l1.length (ix l1)) (h2 : Rd w 32 v2 l2.length (ix l2)) :
    Calls Try.prog 74 #[v1, v2] w fun r w' => r = .returned (.bool (l1 == l2)) ∧ Below w.heap.size w w' := by
  obtain ⟨A1, c1, rfl, ha1, ha2, -⟩ := h1.slice_
  obtain ⟨A2, c2, rfl, hb1, hb2, -⟩ := h2.slice_
  unfold maxLen at ha2 hb2
  by_cases hl : l1.length = l2.length
  rotate_left
  · have hf : (l1 == l2) = false := by rw [beq_eq_false_iff_ne]; rintro rfl; exact hl rfl
    have hd : decide ((l1.length : Int) = (l2.length : Int)) = false := decide_eq_false (by omega)
    rw [hf]
    clear h1 h2
    go_enter Try.func74, Try.ntmps74
    go_wp2_with fail
    go_ret
    exact ⟨rfl, Below.refl _ _⟩
  obtain ⟨n, hn⟩ : ∃ n, n = l1.length := ⟨_, rfl⟩
  rw [← hn] at h1 hl ha1 ⊢
  rw [← hl] at h2 hb1 ⊢
  have H1 := Lib.hid h1
  have H2 := Lib.hid h2
  have Hn := Lib.hid hn
  have Hl := Lib.hid hl
  have W1 := Lib.hid w1
  have W2 := Lib.hid w2
  clear h1 h2 hn hl w1 w2
  go_enter Try.func74, Try.ntmps74
  go_wp2_with fail
  go_loopw [13] (fun i wr => ∃ k : Nat, k ≤ n ∧ i = .int .i64 (k : Int) ∧ Hid (l1.take k = l2.take k) ∧ Below w.heap.size w wr) (fun i _ => n - (intOf i).toNat)
  case atStart => exact ⟨0, Nat.zero_le _, rfl, Lib.hid rfl, Below.refl _ _⟩
  case round =>
    obtain ⟨k, hkl, rfl, Hs, hB⟩ := hrel
    by_cases hkn : k < n
    · obtain ⟨b, off, rfl, hcell⟩ := ix_at (H1.out.below hB) W1.out Hn.out (by omega)
      obtain ⟨b2, off2, rfl, hcell2⟩ := ix_at (H2.out.below hB) W2.out Hl.out (by omega)
      have hck := hcell k hkn
      have hck2 := hcell2 k hkn
      have Hx := Lib.hid (take_succ_i l1 k (by have := Hn.out; omega))
      have Hy := Lib.hid (take_succ_i l2 k (by have := Hl.out; omega))
      have Hne := Lib.hid (@take_ne_i l1 l2 k)
      have hxl := W1.out.get k (by have := Hn.out; omega)
      have hyl := W2.out.get k (by have := Hl.out; omega)
      obtain ⟨x, hx⟩ : ∃ x, x = l1.getD k [] := ⟨_, rfl⟩
      obtain ⟨y, hy⟩ : ∃ x, x = l2.getD k [] := ⟨_, rfl⟩
      rw [← hx] at hck Hx Hne hxl
      rw [← hy] at hck2 Hy Hne hyl
      have hq := fun W => Sha.neqSum W x y hxl hyl
      have hqe := @eq_of_beq Ids.Id _ _ x y
      obtain ⟨q, hq0⟩ : ∃ q, q = (x == y) := ⟨_, rfl⟩
      obtain ⟨X, hX⟩ : ∃ X, X = bs x := ⟨_, rfl⟩
      obtain ⟨Y, hY⟩ : ∃ X, X = bs y := ⟨_, rfl⟩
      have Hi1 := Lib.hid (show (Try.prog.info? 23).map (·.size) = some X.length by rw [hX, bs_length, hxl]; rfl)
      have Hi2 := Lib.hid (show (Try.prog.info? 23).map (·.size) = some Y.length by rw [hY, bs_length, hyl]; rfl)
      rw [← hX] at hck hq
      rw [← hY] at hck2 hq
      rw [← hq0] at hq Hne hqe
      have Hq := Lib.hid hq
      have Hqe := Lib.hid hqe
      clear hcell hcell2 hx hy hX hY hq hqe hq0 hxl hyl
      have hd1 : decide ((k : Int) < (n : Int)) = true := decide_eq_true (by omega)
      have hi3 : (0 : Int) ≤ (k : Int) := by omega
      have hi4 : (k : Int) < (n : Int) := by omega
      cases q
      · go_wp2_with fail
        (refine Ord.wp_region_ord [(false, 0), (false, 1), (false, 2), (false, 3), (false, 4), (false, 5), (false, 6), (false, 7), (false, 8)] (fun W => W.rangeAt b (off + k * 32) X ∧ W.rangeAt b2 (off2 + k * 32) Y) (by kernel_rfl) (by kernel_rfl) (by kernel_rfl) (by kernel_rfl) (by exact ⟨hck, hck2⟩) ?_; simp only [Ord.ordOps, List.filterMap_cons, List.filterMap_nil, List.getElem?_toArray, List.getElem?_cons_succ, List.getElem?_cons_zero, Option.map_some]; repeat (first | (refine Ord.wpOrd_skip ?_ ?_; (focus (go_simp; (try (intro h; cases h)); done)); simp only [Act.put, List.setIfInBounds_toArray, List.set_cons_zero, List.set_cons_succ]) | (refine Ord.wpOrd_take (v := ?_) ?_ ?_ ?_; rotate_left; (focus (go_simp; done)); (focus (intro w' hSw; (try dsimp only at hSw); go_simp; (try with_reducible rfl); done)); simp only [Act.put, List.setIfInBounds_toArray, List.set_cons_zero, List.set_cons_succ])))
        refine Ord.wpOrd_load_mid ?_ 23 _ rfl b (off + k * 32) rfl X _ (fun w h => h.1) Try.underlying23 rfl Hi1.out ?_
        focus (go_simp; done)
        ((try simp only [Act.put, List.setIfInBounds_toArray, List.set_cons_zero, List.set_cons_succ]); repeat (first | (refine Ord.wpOrd_skip ?_ ?_; (focus (go_simp; (try (intro h; cases h)); done)); simp only [Act.put, List.setIfInBounds_toArray, List.set_cons_zero, List.set_cons_succ]) | (refine Ord.wpOrd_take (v := ?_) ?_ ?_ ?_; rotate_left; (focus (go_simp; done)); (focus (intro w' hSw; (try dsimp only at hSw); go_simp; (try with_reducible rfl); done)); simp only [Act.put, List.setIfInBounds_toArray, List.set_cons_zero, List.set_cons_succ])))
        refine Ord.wpOrd_load_mid ?_ 23 _ rfl b2 (off2 + k * 32) rfl Y _ (fun w h => h.2) Try.underlying23 rfl Hi2.out ?_
        focus (go_simp; done)
        ((try simp only [Act.put, List.setIfInBounds_toArray, List.set_cons_zero, List.set_cons_succ]); repeat (first | (refine Ord.wpOrd_skip ?_ ?_; (focus (go_simp; (try (intro h; cases h)); done)); simp only [Act.put, List.setIfInBounds_toArray, List.set_cons_zero, List.set_cons_succ]) | (refine Ord.wpOrd_take (v := ?_) ?_ ?_ ?_; rotate_left; (focus (go_simp; done)); (focus (intro w' hSw; (try dsimp only at hSw); go_simp; (try with_reducible rfl); done)); simp only [Act.put, List.setIfInBounds_toArray, List.set_cons_zero, List.set_cons_succ])))
        refine Ord.wpOrd_bin ?_ .neq 23 _ _ _ rfl (.agg X.toArray) (.agg Y.toArray) (.bool true) rfl rfl (fun w' => run_eqGuard_agg w' _ _ _ _ _ _ (by kernel_rfl)) Hq.out ?_
        focus (go_simp; done)
        refine Ord.wpOrd_nil ?_
        go_wp2_with fail
        go_ret
        exact ⟨ret_b (Hne.out trivial).symm, hB.drew⟩
      · go_wp2_with fail
        (refine Ord.wp_region_ord [(false, 0), (false, 1), (false, 2), (false, 3), (false, 4), (false, 5), (false, 6), (false, 7), (false, 8)] (fun W => W.rangeAt b (off + k * 32) X ∧ W.rangeAt b2 (off2 + k * 32) Y) (by kernel_rfl) (by kernel_rfl) (by kernel_rfl) (by kernel_rfl) (by exact ⟨hck, hck2⟩) ?_; simp only [Ord.ordOps, List.filterMap_cons, List.filterMap_nil, List.getElem?_toArray, List.getElem?_cons_succ, List.getElem?_cons_zero, Option.map_some]; repeat (first | (refine Ord.wpOrd_skip ?_ ?_; (focus (go_simp; (try (intro h; cases h)); done)); simp only [Act.put, List.setIfInBounds_toArray, List.set_cons_zero, List.set_cons_succ]) | (refine Ord.wpOrd_take (v := ?_) ?_ ?_ ?_; rotate_left; (focus (go_simp; done)); (focus (intro w' hSw; (try dsimp only at hSw); go_simp; (try with_reducible rfl); done)); simp only [Act.put, List.setIfInBounds_toArray, List.set_cons_zero, List.set_cons_succ])))
        refine Ord.wpOrd_load_mid ?_ 23 _ rfl b (off + k * 32) rfl X _ (fun w h => h.1) Try.underlying23 rfl Hi1.out ?_
        focus (go_simp; done)
        ((try simp only [Act.put, List.setIfInBounds_toArray, List.set_cons_zero, List.set_cons_succ]); repeat (first | (refine Ord.wpOrd_skip ?_ ?_; (focus (go_simp; (try (intro h; cases h)); done)); simp only [Act.put, List.setIfInBounds_toArray, List.set_cons_zero, List.set_cons_succ]) | (refine Ord.wpOrd_take (v := ?_) ?_ ?_ ?_; rotate_left; (focus (go_simp; done)); (focus (intro w' hSw; (try dsimp only at hSw); go_simp; (try with_reducible rfl); done)); simp only [Act.put, List.setIfInBounds_toArray, List.set_cons_zero, List.set_cons_succ])))
        refine Ord.wpOrd_load_mid ?_ 23 _ rfl b2 (off2 + k * 32) rfl Y _ (fun w h => h.2) Try.underlying23 rfl Hi2.out ?_
        focus (go_simp; done)
        ((try simp only [Act.put, List.setIfInBounds_toArray, List.set_cons_zero, List.set_cons_succ]); repeat (first | (refine Ord.wpOrd_skip ?_ ?_; (focus (go_simp; (try (intro h; cases h)); done)); simp only [Act.put, List.setIfInBounds_toArray, List.set_cons_zero, List.set_cons_succ]) | (refine Ord.wpOrd_take (v := ?_) ?_ ?_ ?_; rotate_left; (focus (go_simp; done)); (focus (intro w' hSw; (try dsimp only at hSw); go_simp; (try with_reducible rfl); done)); simp only [Act.put, List.setIfInBounds_toArray, List.set_cons_zero, List.set_cons_succ])))
        refine Ord.wpOrd_bin ?_ .neq 23 _ _ _ rfl (.agg X.toArray) (.agg Y.toArray) (.bool false) rfl rfl (fun w' => run_eqGuard_agg w' _ _ _ _ _ _ (by kernel_rfl)) Hq.out ?_
        focus (go_simp; done)
        refine Ord.wpOrd_nil ?_
        go_wp2_with fail
        exact ⟨⟨k + 1, by omega, by go_num, Lib.hid (by rw [Hx.out, Hy.out, Hs.out, Hqe.out trivial]), hB.drew⟩, by simp only [intOf]; omega⟩
    · obtain rfl : k = n := by omega
      have hd1 : decide ((k : Int) < (k : Int)) = false := decide_eq_false (by omega)
      go_wp2_with fail
      go_ret
      refine ⟨ret_b ?_, hB⟩
      have h := Hs.out
      rw [List.take_of_length_le (by have := Hn.out; omega), List.take_of_length_le (by have := Hl.out; omega)] at h
      rw [h]; simp
end Go.Proofs.Ytpldkplfdbjidaa.Ids
