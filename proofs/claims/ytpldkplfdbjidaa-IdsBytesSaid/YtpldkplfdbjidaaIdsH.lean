/- Ids' walks: an id looked for in a set. -/
import Derived.Test.YtpldkplfdbjidaaOfPure
import Derived.Test.YtpldkplfdbjidaaIdsW
set_option linter.unusedVariables false
set_option linter.unusedSimpArgs false
namespace Go.Proofs.Ytpldkplfdbjidaa.Ids
open Go.RowKit Go.Proofs.Ytpldkplfdbjidaa.Wd Go.Proofs.Ytpldkplfdbjidaa.Use Go.Proofs.Ytpldkplfdbjidaa.Lay
open Go.Op (bytesLess)
open Go.Proofs.Ytpldkplfdbjidaa.Leaf (lt_trans lt_irr lt_tri lt_asym)

theorem cmp_zero (a b : List UInt8) : decide (Lib.compareBytes a b = 0) = (a == b) := by
  induction a generalizing b with
  | nil => cases b <;> simp [Lib.compareBytes]
  | cons x a ih =>
    cases b with
    | nil => simp [Lib.compareBytes]
    | cons y b =>
      rw [Lib.compareBytes]
      by_cases h1 : x < y
      · have h3 : ¬ x = y := by rintro rfl; exact absurd h1 (by simp)
        simp [h1, h3]
      · by_cases h2 : y < x
        · have h3 : ¬ x = y := by rintro rfl; exact h1 h2
          simp [h1, h2, h3]
        · have h3 : x = y := UInt8.le_antisymm (UInt8.not_lt.1 h2) (UInt8.not_lt.1 h1)
          subst h3
          have h := ih b
          simp only [h1, if_false, h]
          simp
theorem cmp_zero2 (a b : List UInt8) : (Lib.compareBytes a b == 0) = (a == b) := by
  rw [← cmp_zero, Bool.eq_iff_iff]; simp
theorem sorted_at {l : List Id} (h : Sorted l) {i j : Nat} (hij : i < j) (hj : j < l.length) : lt (l.getD i []) (l.getD j []) = true := by
  rw [Sorted, List.pairwise_iff_getElem] at h
  rw [getD_at hj, getD_at (by omega : i < l.length)]
  exact h i j (by omega) hj hij
/-- whether it is there, told by the place where it would be -/
theorem has_place {l : List Id} {x : Id} (h : Sorted l) {a : Nat} (ha : a ≤ l.length) (hlo : ∀ q, q < a → lt (l.getD q []) x = true) (hhi : ∀ q, a ≤ q → q < l.length → lt (l.getD q []) x = false) :
    decide (x ∈ l) = (decide (a < l.length) && (l.getD a [] == x)) := by
  by_cases h1 : a < l.length
  · rw [decide_eq_true h1, Bool.true_and]
    by_cases h2 : l.getD a [] = x
    · rw [h2, beq_self_eq_true]
      exact decide_eq_true (by rw [← h2, getD_at h1]; exact List.getElem_mem h1)
    · rw [beq_eq_false_iff_ne.2 h2]
      refine decide_eq_false (fun hm => ?_)
      obtain ⟨q, hq, e⟩ := List.mem_iff_getElem.1 hm
      rw [← getD_at hq] at e
      rcases Nat.lt_trichotomy q a with h3 | h3 | h3
      · have := hlo q h3; rw [e] at this; exact absurd (this.symm.trans (lt_irr x)) (by decide)
      · subst h3; exact h2 e
      · have h4 := sorted_at h h3 hq
        rw [e] at h4
        exact absurd (h4.symm.trans (hhi a (Nat.le_refl _) h1)) (by decide)
  · rw [decide_eq_false h1, Bool.false_and]
    refine decide_eq_false (fun hm => ?_)
    obtain ⟨q, hq, e⟩ := List.mem_iff_getElem.1 hm
    rw [← getD_at hq] at e
    have := hlo q (by omega); rw [e] at this; exact absurd (this.symm.trans (lt_irr x)) (by decide)
set_option maxRecDepth 100000 in
set_option maxHeartbeats 8000000 in
theorem Search_any (l : List Id) (x : Id) (h32 : W32 l) (hx : x.length = 32) (hlen : l.length ≤ 1000000) (hs : Sorted l) (v : Value) (w : World) (hv : Rd w 32 v l.length (ix l)) :
    Calls Try.prog 116 #[v, .agg (bs x).toArray, .func (.func 65) #[] #[]] w fun r w' => ∃ i : Nat, r = .returned (.tuple #[.int .i64 (i : Int), .bool (decide (x ∈ l))]) ∧ Below w.heap.size w w' := by
  obtain ⟨A, c, rfl, hc1, hc2, -⟩ := hv.slice_
  unfold maxLen at hc2
  obtain ⟨n, hn⟩ : ∃ n, n = l.length := ⟨_, rfl⟩
  obtain ⟨X, hX⟩ : ∃ X, X = bs x := ⟨_, rfl⟩
  have HX := Lib.hid hX
  have hXl : X.length = 32 := by rw [hX, bs_length, hx]
  obtain ⟨W0, hW0⟩ : ∃ W, W = w.alloc (.cells X.toArray 23) := ⟨_, rfl⟩
  have hb0 : Below w.heap.size w W0 := by rw [hW0]; exact below_one _ _
  have hblk : W0.heap[w.heap.size]? = some (.cells X.toArray 23 (0, 0)) := by rw [hW0]; exact heap_alloc_new _ _
  have HW0 := Lib.hid hW0
  rw [← hX]
  rw [← hn] at hv hc1 hlen ⊢
  have Hv := Lib.hid (hv.below hb0)
  have Hxr := Lib.hid (show ∀ W, Below W0.heap.size W0 W → W.rangeAt w.heap.size 0 X from fun W h => range_all (blk_below hblk h))
  have Hix := Lib.hid (show (Try.prog.info? 23).map (·.size) = some X.length by rw [hXl]; rfl)
  have Hn := Lib.hid hn
  have H32 := Lib.hid h32
  have Hso := Lib.hid hs
  have Hx := Lib.hid hx
  clear hv hn h32 hs hX hXl hblk hW0 hx
  go_enter Try.func116, Try.ntmps116
  go_upto_region 1 with fail
  rw [← HW0.out]
  go_wp2_with fail
  go_loopw [9, 10] (fun i j wr => ∃ a b : Nat, a ≤ b ∧ b ≤ n ∧ i = .int .i64 (a : Int) ∧ j = .int .i64 (b : Int) ∧ Hid (∀ q, q < a → lt (l.getD q []) x = true) ∧ Hid (∀ q, b ≤ q → q < n → lt (l.getD q []) x = false) ∧ Below W0.heap.size W0 wr) (fun i j _ => (intOf j - intOf i).toNat)
  case atStart => exact ⟨0, n, Nat.zero_le _, Nat.le_refl _, rfl, rfl, Lib.hid (fun q hq => by omega), Lib.hid (fun q h1 h2 => by omega), Below.refl _ _⟩
  case round =>
    obtain ⟨a, b, hab, hb, rfl, rfl, Hlo, Hhi, hB⟩ := hrel
    by_cases h1 : a < b
    rotate_left
    · obtain rfl : a = b := by omega
      have hd1 : decide ((a : Int) < (a : Int)) = false := decide_eq_false (by omega)
      have Hpl := Lib.hid (has_place Hso.out (by rw [← Hn.out]; exact hb) Hlo.out (by rw [← Hn.out]; exact Hhi.out))
      by_cases h2 : a < n
      rotate_left
      · have hd2 : decide ((a : Int) < (n : Int)) = false := decide_eq_false (by omega)
        have Hf := Lib.hid (show decide (x ∈ l) = false by rw [Hpl.out, decide_eq_false (by rw [← Hn.out]; exact h2)]; rfl)
        go_wp2_with fail
        (refine Ord.wp_region_ord [(false, 0), (false, 1), (false, 2), (false, 3), (false, 4), (false, 5), (false, 6), (false, 7), (false, 8), (false, 9), (false, 10), (true, 11), (false, 12), (false, 13), (false, 14), (false, 15)] (fun W => True) (by kernel_rfl) (by kernel_rfl) (by kernel_rfl) (by kernel_rfl) (by trivial) ?_; simp only [Ord.ordOps, List.filterMap_cons, List.filterMap_nil, List.getElem?_toArray, List.getElem?_cons_succ, List.getElem?_cons_zero, Option.map_some]; repeat (first | (refine Ord.wpOrd_skip ?_ ?_; (focus (go_simp; (try (intro h; cases h)); done)); simp only [Act.put, List.setIfInBounds_toArray, List.set_cons_zero, List.set_cons_succ]) | (refine Ord.wpOrd_take (v := ?_) ?_ ?_ ?_; rotate_left; (focus (go_simp; done)); (focus (intro w' hSw; (try dsimp only at hSw); go_simp; (try with_reducible rfl); done)); simp only [Act.put, List.setIfInBounds_toArray, List.set_cons_zero, List.set_cons_succ])))
        refine Ord.wpOrd_nil ?_
        go_wp2_with fail
        go_ret2
        exact ⟨a, by rw [Hf.out]; rfl, below_go hB.drew hb0⟩
      have hd2 : decide ((a : Int) < (n : Int)) = true := decide_eq_true (by omega)
      obtain ⟨bb, off, rfl, hr⟩ := ix_at (Hv.out.below hB) H32.out Hn.out (by omega)
      have hr1 := hr a h2
      have hyl := H32.out.get a (by rw [← Hn.out]; exact h2)
      have hx1 := Hxr.out wr hB
      have hc := fun W => compare_any (l.getD a []) x hyl Hx.out W
      have Hf := Lib.hid (show decide (x ∈ l) = (l.getD a [] == x) by rw [Hpl.out, decide_eq_true (by rw [← Hn.out]; exact h2), Bool.true_and])
      have hz := cmp_zero2 (l.getD a []) x
      generalize l.getD a [] = y at hr1 hyl hc Hf hz
      generalize Lib.compareBytes y x = m at hc hz
      rw [← hz] at Hf
      obtain ⟨Y, hY⟩ : ∃ Y, Y = bs y := ⟨_, rfl⟩
      have Hi1 := Lib.hid (show (Try.prog.info? 23).map (·.size) = some Y.length by rw [hY, bs_length, hyl]; rfl)
      rw [← hY, ← HX.out] at hc
      rw [← hY] at hr1
      have Hc := Lib.hid hc
      have j0 : (0 : Int) ≤ (a : Int) := by omega
      have j1 : (a : Int) < (n : Int) := by omega
      clear hY hyl hc hr hz
      go_wp2_with fail
      (refine Ord.wp_region_ord [(false, 0), (false, 1), (false, 2), (false, 3), (false, 4), (false, 5), (false, 6), (false, 7), (false, 8), (false, 9), (false, 10), (true, 11), (false, 12), (false, 13), (false, 14), (false, 15)] (fun W => W.rangeAt bb (off + a * 32) Y ∧ W.rangeAt w.heap.size 0 X) (by kernel_rfl) (by kernel_rfl) (by kernel_rfl) (by kernel_rfl) (by exact ⟨hr1, hx1⟩) ?_; simp only [Ord.ordOps, List.filterMap_cons, List.filterMap_nil, List.getElem?_toArray, List.getElem?_cons_succ, List.getElem?_cons_zero, Option.map_some]; repeat (first | (refine Ord.wpOrd_skip ?_ ?_; (focus (go_simp; (try (intro h; cases h)); done)); simp only [Act.put, List.setIfInBounds_toArray, List.set_cons_zero, List.set_cons_succ]) | (refine Ord.wpOrd_take (v := ?_) ?_ ?_ ?_; rotate_left; (focus (go_simp; done)); (focus (intro w' hSw; (try dsimp only at hSw); go_simp; (try with_reducible rfl); done)); simp only [Act.put, List.setIfInBounds_toArray, List.set_cons_zero, List.set_cons_succ])))
      refine Ord.wpOrd_load_mid ?_ 23 _ rfl bb (off + a * 32) rfl Y _ (fun w h => h.1) Try.underlying23 rfl Hi1.out ?_
      focus (go_simp; done)
      ((try simp only [Act.put, List.setIfInBounds_toArray, List.set_cons_zero, List.set_cons_succ]); repeat (first | (refine Ord.wpOrd_skip ?_ ?_; (focus (go_simp; (try (intro h; cases h)); done)); simp only [Act.put, List.setIfInBounds_toArray, List.set_cons_zero, List.set_cons_succ]) | (refine Ord.wpOrd_take (v := ?_) ?_ ?_ ?_; rotate_left; (focus (go_simp; done)); (focus (intro w' hSw; (try dsimp only at hSw); go_simp; (try with_reducible rfl); done)); simp only [Act.put, List.setIfInBounds_toArray, List.set_cons_zero, List.set_cons_succ])))
      refine Ord.wpOrd_load_mid ?_ 23 _ rfl w.heap.size 0 rfl X _ (fun w h => h.2) Try.underlying23 rfl Hix.out ?_
      focus (go_simp; done)
      ((try simp only [Act.put, List.setIfInBounds_toArray, List.set_cons_zero, List.set_cons_succ]); repeat (first | (refine Ord.wpOrd_skip ?_ ?_; (focus (go_simp; (try (intro h; cases h)); done)); simp only [Act.put, List.setIfInBounds_toArray, List.set_cons_zero, List.set_cons_succ]) | (refine Ord.wpOrd_take (v := ?_) ?_ ?_ ?_; rotate_left; (focus (go_simp; done)); (focus (intro w' hSw; (try dsimp only at hSw); go_simp; (try with_reducible rfl); done)); simp only [Act.put, List.setIfInBounds_toArray, List.set_cons_zero, List.set_cons_succ])))
      (refine Ord.wpOrd_call ?_ (fun K hK => ?_); (focus (go_simp; done)); go_simp)
      go_at_call 65
      refine (Hc.out _).mono ?_
      rintro r w5 ⟨rfl, hb5⟩
      have hb5' := below_go hb5 (Below.refl wr.heap.size wr).drew
      (refine hK _ _ (by exact ⟨fun j u hu => cell_below hb5' (hr1 j u hu), fun j u hu => cell_below hb5' (hx1 j u hu)⟩) ?_; clear hK K; (try simp only [Act.put, List.setIfInBounds_toArray, List.set_cons_zero, List.set_cons_succ]); repeat (first | (refine Ord.wpOrd_skip ?_ ?_; (focus (go_simp; (try (intro h; cases h)); done)); simp only [Act.put, List.setIfInBounds_toArray, List.set_cons_zero, List.set_cons_succ]) | (refine Ord.wpOrd_take (v := ?_) ?_ ?_ ?_; rotate_left; (focus (go_simp; done)); (focus (intro w' hSw; (try dsimp only at hSw); go_simp; (try with_reducible rfl); done)); simp only [Act.put, List.setIfInBounds_toArray, List.set_cons_zero, List.set_cons_succ])))
      refine Ord.wpOrd_nil ?_
      go_wp2_with fail
      go_ret2
      exact ⟨a, by rw [Hf.out]; rfl, below_go hb5' (below_go hB hb0)⟩
    have hd1 : decide ((a : Int) < (b : Int)) = true := decide_eq_true (by omega)
    go_upto_region 5 with fail
    obtain ⟨h, hh⟩ : ∃ h, h = (a + b) / 2 := ⟨_, rfl⟩
    have hi1 : ((a : Int) + (b : Int)) / 2 = (h : Int) := by omega
    rw [hi1]
    have hha : a ≤ h := by omega
    have hhb : h < b := by omega
    clear hi1 hh
    obtain ⟨bb, off, rfl, hr⟩ := ix_at (Hv.out.below hB) H32.out Hn.out (by omega)
    have hr1 := hr h (by omega)
    have hyl := H32.out.get h (by rw [← Hn.out]; omega)
    have hx1 := Hxr.out wr hB
    have hc := fun W => compare_any (l.getD h []) x hyl Hx.out W
    have hlt := cmp_lt (l.getD h []) x
    have Hdown := Lib.hid (fun (e : lt (l.getD h []) x = true) q (h1 : q < h + 1) => show lt (l.getD q []) x = true from by
      by_cases hq : q = h
      · rw [hq]; exact e
      · exact lt_trans (sorted_at Hso.out (show q < h by omega) (by rw [← Hn.out]; omega)) e)
    have Hupw := Lib.hid (fun (e : lt (l.getD h []) x = false) q (h1 : h ≤ q) (h2 : q < n) => show lt (l.getD q []) x = false from by
      cases hc : lt (l.getD q []) x with
      | false => rfl
      | true =>
        by_cases hq : q = h
        · rw [hq, e] at hc; cases hc
        · exact absurd ((lt_trans (sorted_at Hso.out (show h < q by omega) (by rw [← Hn.out]; exact h2)) hc).symm.trans e) (by decide))
    rw [show bytesLess (l.getD h []) x = lt (l.getD h []) x from rfl] at hlt
    generalize lt (l.getD h []) x = q0 at hlt Hdown Hupw
    generalize l.getD h [] = y at hr1 hyl hc hlt
    generalize Lib.compareBytes y x = m at hc hlt
    obtain ⟨Y, hY⟩ : ∃ Y, Y = bs y := ⟨_, rfl⟩
    have Hi1 := Lib.hid (show (Try.prog.info? 23).map (·.size) = some Y.length by rw [hY, bs_length, hyl]; rfl)
    rw [← hY, ← HX.out] at hc
    rw [← hY] at hr1
    have Hc := Lib.hid hc
    have j0 : (0 : Int) ≤ (h : Int) := by omega
    have j1 : (h : Int) < (n : Int) := by omega
    clear hY hyl hc hr
    cases q0
    · have Hu := Lib.hid (Hupw.out (by trivial))
      clear Hdown Hupw
      go_wp2_with fail
      (refine Ord.wp_region_ord [(false, 0), (false, 1), (false, 2), (false, 3), (false, 4), (false, 5), (true, 6), (false, 7)] (fun W => W.rangeAt bb (off + h * 32) Y ∧ W.rangeAt w.heap.size 0 X) (by kernel_rfl) (by kernel_rfl) (by kernel_rfl) (by kernel_rfl) (by exact ⟨hr1, hx1⟩) ?_; simp only [Ord.ordOps, List.filterMap_cons, List.filterMap_nil, List.getElem?_toArray, List.getElem?_cons_succ, List.getElem?_cons_zero, Option.map_some]; repeat (first | (refine Ord.wpOrd_skip ?_ ?_; (focus (go_simp; (try (intro h; cases h)); done)); simp only [Act.put, List.setIfInBounds_toArray, List.set_cons_zero, List.set_cons_succ]) | (refine Ord.wpOrd_take (v := ?_) ?_ ?_ ?_; rotate_left; (focus (go_simp; done)); (focus (intro w' hSw; (try dsimp only at hSw); go_simp; (try with_reducible rfl); done)); simp only [Act.put, List.setIfInBounds_toArray, List.set_cons_zero, List.set_cons_succ])))
      refine Ord.wpOrd_load_mid ?_ 23 _ rfl bb (off + h * 32) rfl Y _ (fun w h => h.1) Try.underlying23 rfl Hi1.out ?_
      focus (go_simp; done)
      ((try simp only [Act.put, List.setIfInBounds_toArray, List.set_cons_zero, List.set_cons_succ]); repeat (first | (refine Ord.wpOrd_skip ?_ ?_; (focus (go_simp; (try (intro h; cases h)); done)); simp only [Act.put, List.setIfInBounds_toArray, List.set_cons_zero, List.set_cons_succ]) | (refine Ord.wpOrd_take (v := ?_) ?_ ?_ ?_; rotate_left; (focus (go_simp; done)); (focus (intro w' hSw; (try dsimp only at hSw); go_simp; (try with_reducible rfl); done)); simp only [Act.put, List.setIfInBounds_toArray, List.set_cons_zero, List.set_cons_succ])))
      refine Ord.wpOrd_load_mid ?_ 23 _ rfl w.heap.size 0 rfl X _ (fun w h => h.2) Try.underlying23 rfl Hix.out ?_
      focus (go_simp; done)
      ((try simp only [Act.put, List.setIfInBounds_toArray, List.set_cons_zero, List.set_cons_succ]); repeat (first | (refine Ord.wpOrd_skip ?_ ?_; (focus (go_simp; (try (intro h; cases h)); done)); simp only [Act.put, List.setIfInBounds_toArray, List.set_cons_zero, List.set_cons_succ]) | (refine Ord.wpOrd_take (v := ?_) ?_ ?_ ?_; rotate_left; (focus (go_simp; done)); (focus (intro w' hSw; (try dsimp only at hSw); go_simp; (try with_reducible rfl); done)); simp only [Act.put, List.setIfInBounds_toArray, List.set_cons_zero, List.set_cons_succ])))
      (refine Ord.wpOrd_call ?_ (fun K hK => ?_); (focus (go_simp; done)); go_simp)
      go_at_call 65
      refine (Hc.out _).mono ?_
      rintro r w5 ⟨rfl, hb5⟩
      have hb5' := below_go hb5 (Below.refl wr.heap.size wr).drew
      (refine hK _ _ (by exact ⟨fun j u hu => cell_below hb5' (hr1 j u hu), fun j u hu => cell_below hb5' (hx1 j u hu)⟩) ?_; clear hK K; (try simp only [Act.put, List.setIfInBounds_toArray, List.set_cons_zero, List.set_cons_succ]); repeat (first | (refine Ord.wpOrd_skip ?_ ?_; (focus (go_simp; (try (intro h; cases h)); done)); simp only [Act.put, List.setIfInBounds_toArray, List.set_cons_zero, List.set_cons_succ]) | (refine Ord.wpOrd_take (v := ?_) ?_ ?_ ?_; rotate_left; (focus (go_simp; done)); (focus (intro w' hSw; (try dsimp only at hSw); go_simp; (try with_reducible rfl); done)); simp only [Act.put, List.setIfInBounds_toArray, List.set_cons_zero, List.set_cons_succ])))
      refine Ord.wpOrd_nil ?_
      go_wp2_with fail
      exact ⟨⟨a, h, by omega, by omega, rfl, rfl, Hlo, Hu, below_go hb5' hB⟩, by simp only [intOf]; omega⟩
    · have Hd := Lib.hid (Hdown.out (by trivial))
      clear Hdown Hupw
      go_wp2_with fail
      (refine Ord.wp_region_ord [(false, 0), (false, 1), (false, 2), (false, 3), (false, 4), (false, 5), (true, 6), (false, 7)] (fun W => W.rangeAt bb (off + h * 32) Y ∧ W.rangeAt w.heap.size 0 X) (by kernel_rfl) (by kernel_rfl) (by kernel_rfl) (by kernel_rfl) (by exact ⟨hr1, hx1⟩) ?_; simp only [Ord.ordOps, List.filterMap_cons, List.filterMap_nil, List.getElem?_toArray, List.getElem?_cons_succ, List.getElem?_cons_zero, Option.map_some]; repeat (first | (refine Ord.wpOrd_skip ?_ ?_; (focus (go_simp; (try (intro h; cases h)); done)); simp only [Act.put, List.setIfInBounds_toArray, List.set_cons_zero, List.set_cons_succ]) | (refine Ord.wpOrd_take (v := ?_) ?_ ?_ ?_; rotate_left; (focus (go_simp; done)); (focus (intro w' hSw; (try dsimp only at hSw); go_simp; (try with_reducible rfl); done)); simp only [Act.put, List.setIfInBounds_toArray, List.set_cons_zero, List.set_cons_succ])))
      refine Ord.wpOrd_load_mid ?_ 23 _ rfl bb (off + h * 32) rfl Y _ (fun w h => h.1) Try.underlying23 rfl Hi1.out ?_
      focus (go_simp; done)
      ((try simp only [Act.put, List.setIfInBounds_toArray, List.set_cons_zero, List.set_cons_succ]); repeat (first | (refine Ord.wpOrd_skip ?_ ?_; (focus (go_simp; (try (intro h; cases h)); done)); simp only [Act.put, List.setIfInBounds_toArray, List.set_cons_zero, List.set_cons_succ]) | (refine Ord.wpOrd_take (v := ?_) ?_ ?_ ?_; rotate_left; (focus (go_simp; done)); (focus (intro w' hSw; (try dsimp only at hSw); go_simp; (try with_reducible rfl); done)); simp only [Act.put, List.setIfInBounds_toArray, List.set_cons_zero, List.set_cons_succ])))
      refine Ord.wpOrd_load_mid ?_ 23 _ rfl w.heap.size 0 rfl X _ (fun w h => h.2) Try.underlying23 rfl Hix.out ?_
      focus (go_simp; done)
      ((try simp only [Act.put, List.setIfInBounds_toArray, List.set_cons_zero, List.set_cons_succ]); repeat (first | (refine Ord.wpOrd_skip ?_ ?_; (focus (go_simp; (try (intro h; cases h)); done)); simp only [Act.put, List.setIfInBounds_toArray, List.set_cons_zero, List.set_cons_succ]) | (refine Ord.wpOrd_take (v := ?_) ?_ ?_ ?_; rotate_left; (focus (go_simp; done)); (focus (intro w' hSw; (try dsimp only at hSw); go_simp; (try with_reducible rfl); done)); simp only [Act.put, List.setIfInBounds_toArray, List.set_cons_zero, List.set_cons_succ])))
      (refine Ord.wpOrd_call ?_ (fun K hK => ?_); (focus (go_simp; done)); go_simp)
      go_at_call 65
      refine (Hc.out _).mono ?_
      rintro r w5 ⟨rfl, hb5⟩
      have hb5' := below_go hb5 (Below.refl wr.heap.size wr).drew
      (refine hK _ _ (by exact ⟨fun j u hu => cell_below hb5' (hr1 j u hu), fun j u hu => cell_below hb5' (hx1 j u hu)⟩) ?_; clear hK K; (try simp only [Act.put, List.setIfInBounds_toArray, List.set_cons_zero, List.set_cons_succ]); repeat (first | (refine Ord.wpOrd_skip ?_ ?_; (focus (go_simp; (try (intro h; cases h)); done)); simp only [Act.put, List.setIfInBounds_toArray, List.set_cons_zero, List.set_cons_succ]) | (refine Ord.wpOrd_take (v := ?_) ?_ ?_ ?_; rotate_left; (focus (go_simp; done)); (focus (intro w' hSw; (try dsimp only at hSw); go_simp; (try with_reducible rfl); done)); simp only [Act.put, List.setIfInBounds_toArray, List.set_cons_zero, List.set_cons_succ])))
      refine Ord.wpOrd_nil ?_
      go_wp2_with fail
      exact ⟨⟨h + 1, b, by omega, by omega, by go_num, rfl, Hd, Hhi, below_go hb5' hB⟩, by simp only [intOf]; omega⟩
set_option maxRecDepth 100000 in
set_option maxHeartbeats 2000000 in
theorem Has_any (l : List Id) (x : Id) (h32 : W32 l) (hx : x.length = 32) (hlen : l.length ≤ 1000000) (hs : Sorted l) (v : Value) (w : World) (hv : Rd w 32 v l.length (ix l)) :
    Calls Try.prog 66 #[v, .agg (bs x).toArray] w fun r w' => r = .returned (.bool (decide (x ∈ l))) ∧ Below w.heap.size w w' := by
  obtain ⟨X, hX⟩ : ∃ X, X = bs x := ⟨_, rfl⟩
  have hXl : X.length = 32 := by rw [hX, bs_length, hx]
  obtain ⟨W0, hW0⟩ : ∃ W, W = w.alloc (.cells X.toArray 23) := ⟨_, rfl⟩
  have hb0 : Below w.heap.size w W0 := by rw [hW0]; exact below_one _ _
  have hblk : W0.heap[w.heap.size]? = some (.cells X.toArray 23 (0, 0)) := by rw [hW0]; exact heap_alloc_new _ _
  have HW0 := Lib.hid hW0
  have hv0 := hv.below hb0
  have hri := Right_any v l h32 hlen W0 hv0
  rw [(up_iff l).2 hs] at hri
  have Hri := Lib.hid hri
  have hse := fun W (h : Below W0.heap.size W0 W) => Search_any l x h32 hx hlen hs v W (hv0.below h)
  rw [← hX] at hse ⊢
  have Hse := Lib.hid hse
  have Hxr := Lib.hid (show ∀ W, Below W0.heap.size W0 W → W.rangeAt w.heap.size 0 X from fun W h => range_all (blk_below hblk h))
  have Hix := Lib.hid (show (Try.prog.info? 23).map (·.size) = some X.length by rw [hXl]; rfl)
  generalize decide (x ∈ l) = q at Hse ⊢
  clear hv hri hse hX hXl hblk hW0 hx h32 hs hv0
  go_enter Try.func66, Try.ntmps66
  go_upto_region 1 with fail
  rw [← HW0.out]
  go_wp2_with (first
    | (go_at_call 25; refine Hri.out.mono ?_; rintro r w2 ⟨rfl, hb2⟩; have hx2 := Hxr.out _ hb2)
    | (refine wpList_load_mid rfl 23 _ rfl w.heap.size 0 rfl X _ hx2 Try.underlying23 rfl Hix.out ?_)
    | (go_at_call 116; refine (Hse.out _ hb2).mono ?_; rintro r w3 ⟨i, rfl, hb3⟩))
  go_ret
  exact ⟨rfl, below_go hb3 (below_go hb2 hb0)⟩
end Go.Proofs.Ytpldkplfdbjidaa.Ids
