/- Leaves that turn: an entry put in between others. -/
import Derived.Test.YtcjabfdjngekfaaTurnW
import Derived.Test.YtcjabfdjngekfaaTurnLaw
set_option linter.unusedVariables false
set_option linter.unusedSimpArgs false
namespace Go.Proofs.Ytcjabfdjngekfaa.Leaf
open Go.RowKit Go.Proofs.Ytcjabfdjngekfaa.Wd Go.Proofs.Ytcjabfdjngekfaa.Use Go.Proofs.Ytcjabfdjngekfaa.Lay
open Go.Proofs.Ytcjabfdjngekfaa.Rel (env_cells)

theorem ls_take (l : List L) (i : Nat) : ls (l.take i) = (ls l).take (i * 3) := by
  induction l generalizing i with
  | nil => simp [ls]
  | cons e l ih =>
    cases i with
    | zero => simp [ls]
    | succ i => rw [List.take_succ_cons, show (i + 1) * 3 = i * 3 + 3 by omega]; show e.cs ++ ls (l.take i) = _; rw [ih]; rfl
theorem ls_drop (l : List L) (i : Nat) : ls (l.drop i) = (ls l).drop (i * 3) := by
  induction l generalizing i with
  | nil => simp [ls]
  | cons e l ih =>
    cases i with
    | zero => simp [ls]
    | succ i => rw [List.drop_succ_cons, show (i + 1) * 3 = i * 3 + 3 by omega, ih]; rfl
theorem ls_cons (e : L) (l : List L) : ls (e :: l) = e.cs ++ ls l := rfl
set_option maxRecDepth 100000 in
set_option maxHeartbeats 8000000 in
theorem Insert_any (l : List L) (e : L) (i : Nat) (v : Value) (w : World) (base g2 : Nat) (ho : w.ownsRow base 77 3 v l.length (ls l)) (hi : i ≤ l.length) (hn : l.length ≤ 1000000)
    (he : w.heap[g2]? = some (.cells e.cs.toArray 77 (0, 0))) (hne : v.ownBlock ≠ some g2) (hb : base ≤ w.heap.size) :
    Calls Try.prog 118 #[v, .int .i64 (i : Int), .slice (some ⟨g2, 0, none⟩) 1 1] w fun r w' => ∃ v', r = .returned v' ∧ w'.ownsRow base 77 3 v' (l.length + 1) (ls (l.take i ++ e :: l.drop i)) ∧ w.grownBy w' v.ownBlock := by
  have hR2 : Rd w 3 (.slice (some ⟨g2, 0, none⟩) 1 1) 1 e.cs := rd_blk he rfl (by simp [maxLen])
  obtain ⟨A, c, hv, hc1, hc2, -⟩ := (Rd.of_own ho).slice_
  unfold maxLen at hc2
  by_cases hil : i = l.length
  · have hls : ls (l.take i ++ e :: l.drop i) = ls l ++ e.cs := by
      rw [hil, List.take_of_length_le (Nat.le_refl _), List.drop_of_length_le (Nat.le_refl _)]; simp [ls]
    rw [hls, hil]
    subst hv
    have Ho := Lib.hid ho
    have HR2 := Lib.hid hR2
    have h1 : ∀ u ∈ e.cs, u.oneCell' = true := by intro u hu; simp [L.cs] at hu; rcases hu with rfl | rfl | rfl <;> rfl
    have H1 := Lib.hid h1
    clear ho he hR2 h1 hls hil hi
    go_enter Try.func118, Try.ntmps118
    go_wp2_with (at_builtin; go_must (refine Ord.app_row2 (w0 := w) elLeaf Try.underlying22 rfl (.tmp 23) (.tmp 24) rfl base _ _ l.length 1 (ls l) e.cs rfl rfl H1.out Ho.out HR2.out (Below.refl _ _) hb (by omega) ?_); intro v1 w1 ho1 hB hg1 hat1)
    all_goals (go_ret; refine ⟨_, rfl, ho1, ?_⟩; cases A <;> exact hg1)
  · have hil2 : i < l.length := by omega
    obtain ⟨g, cap, cur, hv2, hbg, hg, hnc, hcm, hcl, hct⟩ := Ord.own_open ho (by omega)
    have hgne : g ≠ g2 := by intro h; rw [hv2] at hne; exact hne (by rw [h]; rfl)
    clear hv hc1 hc2 A c ho hne
    subst hv2
    have hob : (Value.slice (some ⟨g, 0, none⟩) l.length cap).ownBlock = some g := rfl
    rw [hob]
    have hz1 : ((i : Int) == (l.length : Int)) = false := by rw [beq_eq_false_iff_ne]; omega
    have hcm2 := hcm
    unfold maxLen at hcm2
    have hlc : ls (l.take i ++ e :: l.drop i) = (ls l).take (i * 3) ++ e.cs ++ (ls l).drop (i * 3) := by
      rw [show ls (l.take i ++ e :: l.drop i) = ls (l.take i) ++ ls (e :: l.drop i) by simp [ls], ls_cons, ls_take, ls_drop, List.append_assoc]
    rw [hlc]
    have hxl := ls_length l
    have H1 := Lib.hid (show ∀ u ∈ e.cs, u.oneCell' = true by intro u hu; simp [L.cs] at hu; rcases hu with rfl | rfl | rfl <;> rfl)
    have H2 := Lib.hid (show ∀ u ∈ (ls l).drop (i * 3), u.oneCell' = true from fun u hu => ls_one' l u (List.mem_of_mem_drop hu))
    have hx2 : ∀ j u, ((ls l).drop (i * 3))[j]? = some u → w.cell? ⟨g, i * 3 + j, none⟩ = some u := by
      intro j u hu
      rw [List.getElem?_drop, ← hct, List.getElem?_take] at hu
      split at hu
      · rw [blk_cell hg]; simpa using hu
      · cases hu
    obtain ⟨xs, hxs⟩ : ∃ xs, xs = ls l := ⟨_, rfl⟩
    rw [← hxs] at hct hxl H2 hx2 ⊢
    have hsz : (Try.prog.info? 77).map (·.size) = some 3 := by kernel_rfl
    have hcs3 : e.cs.length = 3 := rfl
    by_cases hroom : l.length + 1 ≤ cap
    · have hd1 : decide ((cap : Int) < (l.length : Int) + 1) = false := decide_eq_false (by omega)
      have hov : ∀ lb cb, (callFunc 157 #[.slice (some ⟨g2, 0, none⟩) 1 1, .slice (some ⟨g, (i + 1) * 3, none⟩) lb cb]).run Try.prog w = .ok (.value (.bool false)) w := fun lb cb => by
        rw [run_callFunc_extern Try.func157 (by kernel_rfl) (by kernel_rfl) (by kernel_rfl) (e := Extern.SlicesOverlaps.overlaps #[22, 22] #[4]) (by kernel_rfl),
          Lib.run_overlaps_apart w 22 4 77 Try.underlying22 3 (by intro W; kernel_rfl) ⟨g2, 0, none⟩ ⟨g, (i + 1) * 3, none⟩ 1 1 lb cb (fun h => hgne h.symm) 77 77 3 cur.length
            (by simp [World.shape?, he, L.cs]) (by simp [World.shape?, hg]) (by omega) (blk_frozen he 0) (blk_frozen he 3)]
        rfl
      have hdl : (xs.drop (i * 3)).length = (l.length - i) * 3 := by rw [List.length_drop, hxl, Nat.sub_mul]
      obtain ⟨N1, hN1⟩ : ∃ N1, N1 = cur.take (i * 3 + 3) ++ xs.drop (i * 3) ++ cur.drop (i * 3 + 3 + (xs.drop (i * 3)).length) := ⟨_, rfl⟩
      have hN1l : N1.length = cap * 3 := by rw [hN1]; simp only [List.length_append, List.length_take, List.length_drop]; omega
      obtain ⟨N2, hN2⟩ : ∃ N2, N2 = N1.take (i * 3) ++ e.cs ++ N1.drop (i * 3 + e.cs.length) := ⟨_, rfl⟩
      have hN2l : N2.length = cap * 3 := by rw [hN2]; simp only [List.length_append, List.length_take, List.length_drop, hcs3]; rw [hN1l]; omega
      have hN2t : N2.take ((l.length + 1) * 3) = xs.take (i * 3) ++ e.cs ++ xs.drop (i * 3) := by
        have h := Ord.ins_place cur xs e.cs (i * 3) (l.length * 3) 3 (by omega) (by omega) hct rfl
        rw [← hN1, ← hN2] at h
        rw [h]
        refine List.take_left' ?_
        simp only [List.length_append, List.length_take, hdl, hcs3]; omega
      have hcp1 : ∀ ty, (Builtin.copy_ #[30, 30] ty #[.slice (some ⟨g, (i + 1) * 3, none⟩) (l.length - i) (cap - (i + 1)), .slice (some ⟨g, i * 3, none⟩) (l.length + 1 - i) (cap - i)]).run Try.prog w.drew = .ok (goInt ((l.length - i : Nat) : Int)) (w.drew.setRow g N1.toArray) := fun ty => by
        rw [hN1, show i * 3 + 3 = (i + 1) * 3 by omega]
        exact Ord.run_copy_k w.drew _ _ ty 77 g ((i + 1) * 3) (l.length - i) (cap - (i + 1)) ⟨g, i * 3, none⟩ (l.length + 1 - i) (cap - i) cur 77 (xs.drop (i * 3)) 3 (l.length - i) Try.underlying30 hsz (Nat.min_eq_right (by omega)) hg hdl (fun j u hu => by rw [add_plain]; exact hx2 j u hu) (by rw [hdl]; omega) H2.out
      have Hcp1 := Lib.hid hcp1
      have hB3 : w.grownBy (w.drew.setRow g N1.toArray) (some g) := (show w.grownBy w.drew (some g) from ⟨rfl, rfl, rfl, Nat.le_refl _, fun _ _ _ => rfl⟩).trans (Ord.setRow_grown _ _ _)
      have hg3 : (w.drew.setRow g N1.toArray).heap[g]? = some (.cells N1.toArray 77 (0, 0)) := setRow_heap w.drew g _ _ _ _ hg
      have he3 : (w.drew.setRow g N1.toArray).heap[g2]? = some (.cells e.cs.toArray 77 (0, 0)) := blk_grown he hB3 (by intro h; injection h with h; exact hgne h.symm)
      obtain ⟨W3, hW3⟩ : ∃ W, W = w.drew.setRow g N1.toArray := ⟨_, rfl⟩
      rw [← hW3] at Hcp1 hg3 he3 hB3
      have hcp2 : ∀ ty, (Builtin.copy_ #[30, 22] ty #[.slice (some ⟨g, i * 3, none⟩) (l.length + 1 - i) (cap - i), .slice (some ⟨g2, 0, none⟩) 1 1]).run Try.prog W3 = .ok (goInt 1) (W3.setRow g N2.toArray) := fun ty => by
        rw [hN2]
        exact Ord.run_copy_k W3 _ _ ty 77 g (i * 3) _ _ ⟨g2, 0, none⟩ 1 1 N1 77 e.cs 3 1 Try.underlying30 hsz (Nat.min_eq_left (by omega)) hg3 rfl (fun j u hu => by rw [add_plain, Nat.zero_add, blk_cell he3]; simpa using hu) (by rw [hcs3, hN1l]; omega) H1.out
      have Hcp2 := Lib.hid hcp2
      have hg4 : (W3.setRow g N2.toArray).heap[g]? = some (.cells N2.toArray 77 (0, 0)) := setRow_heap W3 g _ _ _ _ hg3
      have Hown := Lib.hid (show (W3.setRow g N2.toArray).ownsRow base 77 3 (.slice (some ⟨g, 0, none⟩) (l.length + 1) cap) (l.length + 1) (xs.take (i * 3) ++ e.cs ++ xs.drop (i * 3)) from Ord.own_shut hbg hg4 hroom hcm hN2l hN2t)
      have Hgr := Lib.hid (show w.grownBy (W3.setRow g N2.toArray) (some g) from hB3.trans (Ord.setRow_grown _ _ _))
      have hcn2 : ¬ cap = i + 1 := by omega
      have hcn3 : ¬ cap = i := by omega
      have q1 : IntKind.i64.wrap ((i : Int) + 1) = (i : Int) + 1 := by rw [IntKind.wrap_i64]; omega
      have q2 : ((i : Int) + 1).toNat = i + 1 := by omega
      have q3 : (0 : Int) ≤ (i : Int) + 1 := by omega
      have q4 : (i : Int) + 1 ≤ (l.length : Int) + 1 := by omega
      have q5 : (i : Int) ≤ (l.length : Int) + 1 := by omega
      have q6 : (0 : Int) ≤ (i : Int) := by omega
      have HW3 := Lib.hid hW3
      clear hcp1 hcp2 hg4 hg3 he3 hB3 hW3 hN1 hN2 hN1l hN2l hN2t hct hxl he hg hcl hx2
      go_enter Try.func118, Try.ntmps118
      go_upto_region 15 with (simp only [hov])
      clear hov
      (refine Ord.wp_region_ord [(false, 0), (false, 1), (false, 2), (false, 3), (false, 4), (false, 5), (false, 6), (false, 7), (true, 8)] (fun W => True) (by kernel_rfl) (by kernel_rfl) (by kernel_rfl) (by kernel_rfl) (by trivial) ?_; simp only [Ord.ordOps, List.filterMap_cons, List.filterMap_nil, List.getElem?_toArray, List.getElem?_cons_succ, List.getElem?_cons_zero, Option.map_some]; repeat (first | (refine Ord.wpOrd_skip ?_ ?_; (focus (go_simp; (try (intro h; cases h)); done)); simp only [Act.put, List.setIfInBounds_toArray, List.set_cons_zero, List.set_cons_succ]) | (refine Ord.wpOrd_take (v := ?_) ?_ ?_ ?_; rotate_left; (focus (go_simp; done)); (focus (intro w' hSw; (try dsimp only at hSw); go_simp; (try with_reducible rfl); done)); simp only [Act.put, List.setIfInBounds_toArray, List.set_cons_zero, List.set_cons_succ])))
      refine Ord.wpOrd_copy_run ?_ (.tmp 73) (.tmp 76) 30 30 rfl (.slice (some ⟨g, (i + 1) * 3, none⟩) (l.length - i) (cap - (i + 1))) (.slice (some ⟨g, i * 3, none⟩) (l.length + 1 - i) (cap - i)) rfl rfl (Hcp1.out _) ⟨trivial, ?_⟩
      · go_simp
      refine Ord.wpOrd_nil ?_
      go_wp2_with (refine Ord.wpList_copy_run W3 rfl (.tmp 80) (.tmp 81) 30 22 rfl (.slice (some ⟨g, i * 3, none⟩) (l.length + 1 - i) (cap - i)) (.slice (some ⟨g2, 0, none⟩) 1 1) rfl rfl (Hcp2.out _) ?_)
      go_ret
      exact ⟨_, rfl, Hown.out, Hgr.out⟩
    · have hd1 : decide ((cap : Int) < (l.length : Int) + 1) = true := decide_eq_true (by omega)
      obtain ⟨k, hk⟩ : ∃ k, k = l.length + 1 - i := ⟨_, rfl⟩
      have hki : (l.length : Int) + 1 - (i : Int) = (k : Int) := by omega
      have hik : i + k = l.length + 1 := by omega
      obtain ⟨cap2, N, hrun, hc1, hc2, hNl, hNt⟩ := Ord.run_grow_zeros (kq := .i64) elLeaf Try.underlying3 w g i cap (xs.take (i * 3)) (by rw [List.length_take]; omega) (fun j u hu => by
        rw [List.getElem?_take] at hu
        split at hu
        · rw [← hct, List.getElem?_take] at hu
          split at hu
          · rw [blk_cell hg]; simpa using hu
          · cases hu
        · cases hu) k (by omega) (by omega) (by omega)
      rw [← hki, hik] at hrun
      rw [hik] at hc1
      have Hrun := Lib.hid hrun
      have hc2' := hc2
      unfold maxLen at hc2'
      clear hrun hki hik hk hxs
      go_enter Try.func118, Try.ntmps118
      go_upto_region 10 with (at_builtin; refine Lib.wpList_append_run w rfl (.tmp 34) (.tmp 39) 30 3 rfl (.slice (some ⟨g, 0, none⟩) i cap) (.int .i64 ((l.length : Int) + 1 - (i : Int))) rfl rfl _ _ (Hrun.out _) ?_)
      obtain ⟨G, hG⟩ : ∃ G, G = w.heap.size := ⟨_, rfl⟩
      obtain ⟨W2, hW2⟩ : ∃ W, W = (w.alloc (.cells N.toArray 77)).drew := ⟨_, rfl⟩
      have hg2 : W2.heap[g]? = some (.cells cur.toArray 77 (0, 0)) := by rw [hW2]; exact blk_alloc hg _
      have he2 : W2.heap[g2]? = some (.cells e.cs.toArray 77 (0, 0)) := by rw [hW2]; exact blk_alloc he _
      have hG2 : W2.heap[G]? = some (.cells N.toArray 77 (0, 0)) := by rw [hW2, hG]; exact heap_alloc_new w _
      have hgG : g ≠ G := by have := blk_lt hg; omega
      have hB2 : Below w.heap.size w W2 := by rw [hW2]; exact (below_one _ _).drew
      rw [← hW2]
      rw [← hG]
      have hx3 : ∀ W : World, W.heap[g]? = some (.cells cur.toArray 77 (0, 0)) → ∀ j u, (xs.drop (i * 3))[j]? = some u → W.cell? ((⟨g, i * 3, none⟩ : Addr).add j) = some u := by
        intro W hW j u hu
        rw [List.getElem?_drop, ← hct, List.getElem?_take] at hu
        rw [add_plain]
        split at hu
        · rw [blk_cell hW]; simpa using hu
        · cases hu
      obtain ⟨N1, hN1⟩ : ∃ N1, N1 = N.take (i * 3) ++ e.cs ++ N.drop (i * 3 + e.cs.length) := ⟨_, rfl⟩
      have hN1l : N1.length = cap2 * 3 := by rw [hN1]; simp only [List.length_append, List.length_take, List.length_drop, hcs3]; omega
      obtain ⟨N2, hN2⟩ : ∃ N2, N2 = N1.take (i * 3 + 3) ++ xs.drop (i * 3) ++ N1.drop (i * 3 + 3 + (xs.drop (i * 3)).length) := ⟨_, rfl⟩
      have hdl : (xs.drop (i * 3)).length = (l.length - i) * 3 := by rw [List.length_drop, hxl, Nat.sub_mul]
      have hN2l : N2.length = cap2 * 3 := by rw [hN2]; simp only [List.length_append, List.length_take, List.length_drop]; rw [hN1l]; omega
      have hN2t : N2.take ((l.length + 1) * 3) = xs.take (i * 3) ++ e.cs ++ xs.drop (i * 3) := by
        have h := Ord.ins_place2 N xs e.cs (i * 3) (l.length * 3) 3 (by omega) hxl (by omega) hNt rfl
        rw [← hN1, ← hN2] at h
        rw [h]
        refine List.take_left' ?_
        simp only [List.length_append, List.length_take, hdl, hcs3]; omega
      have hcp1 : ∀ ty, (Builtin.copy_ #[30, 22] ty #[.slice (some ⟨G, i * 3, none⟩) (l.length + 1 - i) (cap2 - i), .slice (some ⟨g2, 0, none⟩) 1 1]).run Try.prog W2 = .ok (goInt 1) (W2.setRow G N1.toArray) := fun ty => by
        rw [hN1]
        exact Ord.run_copy_k W2 _ _ ty 77 G (i * 3) _ _ ⟨g2, 0, none⟩ 1 1 N 77 e.cs 3 1 Try.underlying30 hsz (Nat.min_eq_left (by omega)) hG2 rfl (fun j u hu => by rw [add_plain, Nat.zero_add, blk_cell he2]; simpa using hu) (by rw [hcs3]; omega) H1.out
      have Hcp1 := Lib.hid hcp1
      have hG3 : (W2.setRow G N1.toArray).heap[G]? = some (.cells N1.toArray 77 (0, 0)) := setRow_heap W2 G _ _ _ _ hG2
      have hg3 : (W2.setRow G N1.toArray).heap[g]? = some (.cells cur.toArray 77 (0, 0)) := blk_grown hg2 (Ord.setRow_grown _ _ _) (by intro h; injection h with h; exact hgG h)
      have hB3 : Below w.heap.size w (W2.setRow G N1.toArray) := hB2.grown (Ord.setRow_grown _ _ _) hB2.size (fun k hk => by injection hk with hk; omega)
      obtain ⟨W3, hW3⟩ : ∃ W, W = W2.setRow G N1.toArray := ⟨_, rfl⟩
      rw [← hW3] at Hcp1 hG3 hg3 hB3
      have hcp2 : ∀ ty, (Builtin.copy_ #[30, 30] ty #[.slice (some ⟨G, (i + 1) * 3, none⟩) (l.length - i) (cap2 - (i + 1)), .slice (some ⟨g, i * 3, none⟩) (l.length - i) (cap - i)]).run Try.prog W3.drew = .ok (goInt ((l.length - i : Nat) : Int)) (W3.drew.setRow G N2.toArray) := fun ty => by
        rw [hN2, show i * 3 + 3 = (i + 1) * 3 by omega]
        exact Ord.run_copy_k W3.drew _ _ ty 77 G ((i + 1) * 3) (l.length - i) (cap2 - (i + 1)) ⟨g, i * 3, none⟩ (l.length - i) (cap - i) N1 77 (xs.drop (i * 3)) 3 (l.length - i) Try.underlying30 hsz (Nat.min_eq_left (by omega)) hG3 hdl (hx3 _ hg3) (by rw [hdl, hN1l]; omega) H2.out
      have Hcp2 := Lib.hid hcp2
      have hB4 : Below w.heap.size w (W3.drew.setRow G N2.toArray) := hB3.drew.grown (Ord.setRow_grown _ _ _) hB3.size (fun k hk => by injection hk with hk; omega)
      have hG4 : (W3.drew.setRow G N2.toArray).heap[G]? = some (.cells N2.toArray 77 (0, 0)) := setRow_heap W3.drew G _ _ _ _ hG3
      have Hown := Lib.hid (show (W3.drew.setRow G N2.toArray).ownsRow base 77 3 (.slice (some ⟨G, 0, none⟩) (l.length + 1) cap2) (l.length + 1) (xs.take (i * 3) ++ e.cs ++ xs.drop (i * 3)) from Ord.own_shut (by omega) hG4 (by omega) hc2 hN2l hN2t)
      have Hgr := Lib.hid (show w.grownBy (W3.drew.setRow G N2.toArray) (some g) from grown_below hB4 _)
      have HW3 := Lib.hid hW3
      have hcn1 : ¬ cap2 = i := by omega
      have hcn2 : ¬ cap2 = i + 1 := by omega
      have hcn3 : ¬ cap = i := by omega
      have q1 : IntKind.i64.wrap ((i : Int) + 1) = (i : Int) + 1 := by rw [IntKind.wrap_i64]; omega
      have q2 : ((i : Int) + 1).toNat = i + 1 := by omega
      have q3 : (0 : Int) ≤ (i : Int) + 1 := by omega
      have q4 : (i : Int) + 1 ≤ (l.length : Int) + 1 := by omega
      have q5 : (i : Int) ≤ (l.length : Int) := by omega
      have q6 : (0 : Int) ≤ (i : Int) := by omega
      clear hG hgG hb hcp1 hcp2 hG4 hG3 hg3 hB3 hB4 hG2 he2 hg2 hW2 hW3 hN1 hN2 hN1l hN2l hN2t hx3 hNl hNt hct hxl he hg hcl hx2
      go_upto_region 11 with (refine Ord.wpList_copy_run W2 rfl (.tmp 43) (.tmp 44) 30 22 rfl (.slice (some ⟨G, i * 3, none⟩) (l.length + 1 - i) (cap2 - i)) (.slice (some ⟨g2, 0, none⟩) 1 1) rfl rfl (Hcp1.out _) ?_)
      (refine Ord.wp_region_ord [(false, 0), (false, 1), (false, 2), (false, 3), (false, 4), (false, 5), (false, 6), (false, 7), (true, 8)] (fun W => True) (by kernel_rfl) (by kernel_rfl) (by kernel_rfl) (by kernel_rfl) (by trivial) ?_; simp only [Ord.ordOps, List.filterMap_cons, List.filterMap_nil, List.getElem?_toArray, List.getElem?_cons_succ, List.getElem?_cons_zero, Option.map_some]; repeat (first | (refine Ord.wpOrd_skip ?_ ?_; (focus (go_simp; (try (intro h; cases h)); done)); simp only [Act.put, List.setIfInBounds_toArray, List.set_cons_zero, List.set_cons_succ]) | (refine Ord.wpOrd_take (v := ?_) ?_ ?_ ?_; rotate_left; (focus (go_simp; done)); (focus (intro w' hSw; (try dsimp only at hSw); go_simp; (try with_reducible rfl); done)); simp only [Act.put, List.setIfInBounds_toArray, List.set_cons_zero, List.set_cons_succ])))
      refine Ord.wpOrd_copy_run ?_ (.tmp 50) (.tmp 53) 30 30 rfl (.slice (some ⟨G, (i + 1) * 3, none⟩) (l.length - i) (cap2 - (i + 1))) (.slice (some ⟨g, i * 3, none⟩) (l.length - i) (cap - i)) rfl rfl (Hcp2.out _) ⟨trivial, ?_⟩
      · go_simp
      refine Ord.wpOrd_nil ?_
      go_wp2_with fail
      go_ret
      exact ⟨_, rfl, Hown.out, Hgr.out⟩
end Go.Proofs.Ytcjabfdjngekfaa.Leaf
