/- Leaves' walks: an entry. -/
import Derived.Test.YtcjabfdjngekfaaLeafPure
import Derived.Test.YtcjabfdjngekfaaUse
import Derived.Test.YtcjabfdjngekfaaOrdL
import Derived.Laws.Cover1
import Derived.Test.YtcjabfdjngekfaaRelPs
set_option linter.unusedVariables false
set_option linter.unusedSimpArgs false
namespace Go.Proofs.Ytcjabfdjngekfaa.Leaf
open Go.RowKit Go.Proofs.Ytcjabfdjngekfaa.Wd Go.Proofs.Ytcjabfdjngekfaa.Use Go.Proofs.Ytcjabfdjngekfaa.Lay
open Go.Proofs.Ytcjabfdjngekfaa.Rel (env_cells)

set_option maxRecDepth 100000 in
set_option maxHeartbeats 4000000 in
theorem eright_any (e : L) (w : World) (hl : e.key.length ≤ maxLen) :
    Calls Try.prog 144 #[.agg #[.string (str e.key), .int .i64 e.first, .int .i64 e.len]] w fun r w' => r = .returned (.bool e.right) ∧ Below w.heap.size w w' := by
  have hB := below_one w (.cells #[.string (str e.key), .int .i64 e.first, .int .i64 e.len] 77)
  obtain ⟨rt, hrt⟩ : ∃ r, r = e.right := ⟨_, rfl⟩
  rw [← hrt]
  rw [L.right] at hrt
  have hsz := str_size e.key
  by_cases h1 : 1 ≤ e.key.length
  rotate_left
  · have h0 : e.key = [] := List.length_eq_zero_iff.1 (by omega)
    rw [decide_eq_false h1] at hrt
    simp only [Bool.false_and] at hrt
    subst hrt
    rw [h0] at hB ⊢
    go_enter Try.func144, Try.ntmps144
    go_wp2_with fail
    go_ret
    exact ⟨rfl, hB⟩
  rw [decide_eq_true h1] at hrt
  have hd1 : e.key.isEmpty = false := by
    cases hk : e.key with
    | nil => rw [hk] at h1; simp at h1
    | cons x l => rfl
  by_cases h2 : e.key.length ≤ 40
  rotate_left
  · rw [decide_eq_false h2] at hrt
    simp only [Bool.false_and, Bool.and_false, Bool.true_and] at hrt
    subst hrt
    have hd : decide ((e.key.length : Int) ≤ 40) = false := decide_eq_false (by omega)
    go_enter Try.func144, Try.ntmps144
    go_wp2_with fail
    go_ret
    exact ⟨rfl, hB⟩
  rw [decide_eq_true h2] at hrt
  have hdh2 : decide ((e.key.length : Int) ≤ 40) = true := decide_eq_true (by omega)
  by_cases h3 : 0 ≤ e.first
  rotate_left
  · rw [decide_eq_false h3] at hrt
    simp only [Bool.false_and, Bool.and_false, Bool.true_and] at hrt
    subst hrt
    have hd : decide ((0 : Int) ≤ e.first) = false := decide_eq_false (by omega)
    go_enter Try.func144, Try.ntmps144
    go_wp2_with fail
    go_ret
    exact ⟨rfl, hB⟩
  rw [decide_eq_true h3] at hrt
  have hdh3 : decide ((0 : Int) ≤ e.first) = true := decide_eq_true (by omega)
  by_cases h4 : e.first < 4096
  rotate_left
  · rw [decide_eq_false h4] at hrt
    simp only [Bool.false_and, Bool.and_false, Bool.true_and] at hrt
    subst hrt
    have hd : decide (e.first < 4096) = false := decide_eq_false (by omega)
    go_enter Try.func144, Try.ntmps144
    go_wp2_with fail
    go_ret
    exact ⟨rfl, hB⟩
  rw [decide_eq_true h4] at hrt
  have hdh4 : decide (e.first < 4096) = true := decide_eq_true (by omega)
  by_cases h5 : 0 ≤ e.len
  rotate_left
  · rw [decide_eq_false h5] at hrt
    simp only [Bool.false_and, Bool.and_false, Bool.true_and] at hrt
    subst hrt
    have hd : decide ((0 : Int) ≤ e.len) = false := decide_eq_false (by omega)
    go_enter Try.func144, Try.ntmps144
    go_wp2_with fail
    go_ret
    exact ⟨rfl, hB⟩
  rw [decide_eq_true h5] at hrt
  have hdh5 : decide ((0 : Int) ≤ e.len) = true := decide_eq_true (by omega)
  by_cases h6 : e.len ≤ 8192
  rotate_left
  · rw [decide_eq_false h6] at hrt
    simp only [Bool.false_and, Bool.and_false, Bool.true_and] at hrt
    subst hrt
    have hd : decide (e.len ≤ 8192) = false := decide_eq_false (by omega)
    go_enter Try.func144, Try.ntmps144
    go_wp2_with fail
    go_ret
    exact ⟨rfl, hB⟩
  rw [decide_eq_true h6] at hrt
  have hdh6 : decide (e.len ≤ 8192) = true := decide_eq_true (by omega)
  simp only [Bool.and_true] at hrt
  subst hrt
  go_enter Try.func144, Try.ntmps144
  go_wp2_with fail
  go_ret
  exact ⟨rfl, hB⟩
/-- cells of entries, one behind the other -/
def L.cs (e : L) : List Value := [.string (str e.key), .int .i64 e.first, .int .i64 e.len]
def ls (l : List L) : List Value := l.flatMap L.cs
theorem ls_length (l : List L) : (ls l).length = l.length * 3 := by
  induction l with
  | nil => rfl
  | cons e l ih => simp only [ls, List.flatMap_cons, List.length_append, List.length_cons] at ih ⊢; simp only [L.cs, List.length_cons, List.length_nil]; omega
theorem ls_get (l : List L) (k : Nat) (hk : k < l.length) : (ls l)[k * 3]? = some (.string (str (l.getD k L.zero).key)) ∧ (ls l)[k * 3 + 1]? = some (.int .i64 (l.getD k L.zero).first) ∧ (ls l)[k * 3 + 2]? = some (.int .i64 (l.getD k L.zero).len) := by
  induction l generalizing k with
  | nil => simp at hk
  | cons e l ih =>
    cases k with
    | zero => exact ⟨rfl, rfl, rfl⟩
    | succ k =>
      have h := ih k (by simpa using hk)
      have e1 : ls (e :: l) = .string (str e.key) :: .int .i64 e.first :: .int .i64 e.len :: ls l := rfl
      rw [e1, show (k + 1) * 3 = k * 3 + 3 by omega]
      exact h
/-- where the cells of a row of entries lie -/
theorem ents_at {w : World} {A : Option Addr} {n c : Nat} {l : List L} (h : Rd w 3 (.slice A n c) n (ls l)) (hn : n = l.length) (h0 : 0 < n) : ∃ b off, A = some ⟨b, off, none⟩ ∧ ∀ k, k < n → w.cell? ⟨b, off + k * 3, none⟩ = some (.string (str (l.getD k L.zero).key)) ∧ w.cell? ⟨b, off + k * 3 + 1, none⟩ = some (.int .i64 (l.getD k L.zero).first) ∧ w.cell? ⟨b, off + k * 3 + 2, none⟩ = some (.int .i64 (l.getD k L.zero).len) := by
  obtain ⟨hl, A', c', e, h1, h2, h3⟩ := h
  injection e with e1 e2 e3
  obtain ⟨b, off, rfl, hc⟩ := h3 h0
  refine ⟨b, off, e1, fun k hk => ?_⟩
  obtain ⟨g0, g1, g2⟩ := ls_get l k (by omega)
  refine ⟨?_, ?_, ?_⟩
  · rw [hc (k * 3) (by omega), g0]
  · rw [Nat.add_assoc, hc (k * 3 + 1) (by omega), g1]
  · rw [Nat.add_assoc, hc (k * 3 + 2) (by omega), g2]
set_option maxRecDepth 100000 in
set_option maxHeartbeats 4000000 in
theorem Size_any (l : List L) (v : Value) (w : World) (hv : Rd w 3 v l.length (ls l)) (hn : l.length ≤ 1000000) (hk : ∀ e ∈ l, e.key.length ≤ 1000000) :
    Calls Try.prog 20 #[v] w fun r w' => r = .returned (.int .i64 (sizeTo l l.length : Int)) ∧ Below w.heap.size w w' := by
  obtain ⟨A, c, rfl, hc1, hc2, -⟩ := hv.slice_
  unfold maxLen at hc2
  have Hv := Lib.hid hv
  have Hk := Lib.hid hk
  clear hv hk
  go_enter Try.func20, Try.ntmps20
  go_wp2_with fail
  go_loopw [3, 8] (fun s i wr => ∃ k : Nat, k ≤ l.length ∧ i = .int .i64 (k : Int) ∧ s = .int .i64 (sizeTo l k : Int) ∧ sizeTo l k ≤ 1 + k * 1000005 ∧ Below w.heap.size w wr) (fun _ i _ => l.length - (intOf i).toNat)
  case atStart => exact ⟨0, by omega, rfl, rfl, by simp [sizeTo], Below.refl _ _⟩
  case round =>
    obtain ⟨k, hkl, rfl, rfl, hs, hB⟩ := hrel
    by_cases hkn : k < l.length
    · obtain ⟨b, off, rfl, hcell⟩ := ents_at (Hv.out.below hB) rfl (by omega)
      obtain ⟨c0, c1, c2⟩ := hcell k hkn
      obtain ⟨e, he⟩ : ∃ e, e = l.getD k L.zero := ⟨_, rfl⟩
      rw [← he] at c0 c1 c2
      have hkk : e.key.length ≤ 1000000 := Hk.out e (by rw [he, List.getD_eq_getElem?_getD, List.getElem?_eq_getElem hkn]; exact List.getElem_mem hkn)
      have hz : sizeTo l (k + 1) = sizeTo l k + (5 + e.key.length) := by rw [sizeTo, ← he]
      have Hz := Lib.hid hz
      have hss := str_size e.key
      clear hcell he hz
      generalize hzk : sizeTo l k = z at hs Hz ⊢
      clear hzk
      have hd1 : decide ((k : Int) < (l.length : Int)) = true := decide_eq_true (by omega)
      go_wp2_with fail
      exact ⟨⟨k + 1, by omega, by go_num, by rw [Hz.out]; go_num, by rw [Hz.out]; omega, hB.alloc hB.size _⟩, by simp only [intOf]; omega⟩
    · obtain rfl : k = l.length := by omega
      go_wp2_with fail
      go_ret
      exact ⟨rfl, hB⟩
set_option maxRecDepth 100000 in
set_option maxHeartbeats 4000000 in
theorem rising_any (l : List L) (v : Value) (w : World) (hv : Rd w 3 v l.length (ls l)) (hk : ∀ e ∈ l, e.key.length ≤ maxLen) :
    Calls Try.prog 88 #[v] w fun r w' => r = .returned (.bool (rising l)) ∧ Below w.heap.size w w' := by
  obtain ⟨A, c, rfl, hc1, hc2, -⟩ := hv.slice_
  unfold maxLen at hc2
  have Hv := Lib.hid hv
  have Hk := Lib.hid hk
  clear hv hk
  go_enter Try.func88, Try.ntmps88
  go_wp2_with fail
  go_loopw [7] (fun i wr => ∃ k : Nat, k ≤ l.length ∧ i = .int .i64 (k : Int) ∧ risTo l k = true ∧ Below w.heap.size w wr) (fun i _ => l.length - (intOf i).toNat)
  case atStart => exact ⟨0, by omega, rfl, rfl, Below.refl _ _⟩
  case round =>
    obtain ⟨k, hkl, rfl, hs, hB⟩ := hrel
    have Hs := Lib.hid hs
    clear hs
    by_cases hkn : k < l.length
    · obtain ⟨b, off, rfl, hcell⟩ := ents_at (Hv.out.below hB) rfl (by omega)
      have Hcell := Lib.hid (fun W (h : Below wr.heap.size wr W) j (hj : j < l.length) => (show W.cell? ⟨b, off + j * 3, none⟩ = some (.string (str (l.getD j L.zero).key)) from cell_below h (hcell j hj).1))
      obtain ⟨c0, c1, c2⟩ := hcell k hkn
      have Hke := Lib.hid (show (l.getD k L.zero).key.length ≤ maxLen from Hk.out _ (by rw [List.getD_eq_getElem?_getD, List.getElem?_eq_getElem hkn]; exact List.getElem_mem hkn))
      have Hat := Lib.hid (show risAt l k = ((l.getD k L.zero).right && (k == 0 || Op.bytesLess (l.getD (k - 1) L.zero).key (l.getD k L.zero).key)) from rfl)
      have Hnx := Lib.hid (show risTo l (k + 1) = risAt l k by rw [risTo, Hs.out, Bool.true_and])
      generalize l.getD k L.zero = e at Hat Hke c0 c1 c2
      have her := fun W => eright_any e W Hke.out
      obtain ⟨rt, hrt⟩ : ∃ r, r = e.right := ⟨_, rfl⟩
      rw [← hrt] at her Hat
      have Her := Lib.hid her
      clear her hrt hcell
      have hd1 : decide ((k : Int) < (l.length : Int)) = true := decide_eq_true (by omega)
      go_upto_region 4 with fail
      have Hblk := Lib.hid (heap_alloc_new wr (.cells #[.string (str e.key), .int .i64 e.first, .int .i64 e.len] 77))
      have hBr := below_one wr (.cells #[.string (str e.key), .int .i64 e.first, .int .i64 e.len] 77)
      cases rt with
      | false =>
        have hrs : rising l = false := risTo_false (k := k + 1) (by rw [Hnx.out, Hat.out]; rfl) (by omega)
        (refine Ord.wp_region_ord [(false, 0), (true, 1), (false, 2), (false, 3), (false, 4), (false, 5), (false, 6), (false, 7), (false, 8), (false, 9), (false, 10), (false, 11), (false, 12), (false, 13), (false, 14), (false, 15), (false, 16), (false, 17)] (fun W => (W.cell? ⟨wr.heap.size, 0, none⟩ = some (.string (str e.key)) ∧ W.cell? ⟨wr.heap.size, 1, none⟩ = some (.int .i64 e.first) ∧ W.cell? ⟨wr.heap.size, 2, none⟩ = some (.int .i64 e.len))) (by kernel_rfl) (by kernel_rfl) (by kernel_rfl) (by kernel_rfl) (by exact env_cells (blk_below Hblk.out (Below.refl _ _).drew)) ?_; simp only [Ord.ordOps, List.filterMap_cons, List.filterMap_nil, List.getElem?_toArray, List.getElem?_cons_succ, List.getElem?_cons_zero, Option.map_some]; repeat (first | (refine Ord.wpOrd_skip ?_ ?_; (focus (go_simp; (try (intro h; cases h)); done)); simp only [Act.put, List.setIfInBounds_toArray, List.set_cons_zero, List.set_cons_succ]) | (refine Ord.wpOrd_take (v := ?_) ?_ ?_ ?_; rotate_left; (focus (go_simp; done)); (focus (intro w' hSw; (try dsimp only at hSw); go_simp; (try with_reducible rfl); done)); simp only [Act.put, List.setIfInBounds_toArray, List.set_cons_zero, List.set_cons_succ])))
        (refine Ord.wpOrd_call ?_ (fun K hK => ?_); (focus (go_simp; done)); go_simp)
        go_at_call 144
        refine (Her.out _).mono ?_
        rintro r w5 ⟨rfl, hb5⟩
        have hb5' := below_go hb5 (Below.refl _ _).drew
        have hB5 := below_go hb5' (below_go hBr hB)
        (refine hK _ _ (by exact env_cells (blk_below Hblk.out hb5')) ?_; clear hK K; (try simp only [Act.put, List.setIfInBounds_toArray, List.set_cons_zero, List.set_cons_succ]); repeat (first | (refine Ord.wpOrd_skip ?_ ?_; (focus (go_simp; (try (intro h; cases h)); done)); simp only [Act.put, List.setIfInBounds_toArray, List.set_cons_zero, List.set_cons_succ]) | (refine Ord.wpOrd_take (v := ?_) ?_ ?_ ?_; rotate_left; (focus (go_simp; done)); (focus (intro w' hSw; (try dsimp only at hSw); go_simp; (try with_reducible rfl); done)); simp only [Act.put, List.setIfInBounds_toArray, List.set_cons_zero, List.set_cons_succ])))
        refine Ord.wpOrd_nil ?_
        go_wp2_with fail
        go_ret
        exact ⟨by rw [hrs]; rfl, hB5⟩
      | true =>
        cases k with
        | zero =>
          have Hn1 := Lib.hid (show risTo l (0 + 1) = true by rw [Hnx.out, Hat.out]; rfl)
          (refine Ord.wp_region_ord [(false, 0), (true, 1), (false, 2), (false, 3), (false, 4), (false, 5), (false, 6), (false, 7), (false, 8), (false, 9), (false, 10), (false, 11), (false, 12), (false, 13), (false, 14), (false, 15), (false, 16), (false, 17)] (fun W => (W.cell? ⟨wr.heap.size, 0, none⟩ = some (.string (str e.key)) ∧ W.cell? ⟨wr.heap.size, 1, none⟩ = some (.int .i64 e.first) ∧ W.cell? ⟨wr.heap.size, 2, none⟩ = some (.int .i64 e.len))) (by kernel_rfl) (by kernel_rfl) (by kernel_rfl) (by kernel_rfl) (by exact env_cells (blk_below Hblk.out (Below.refl _ _).drew)) ?_; simp only [Ord.ordOps, List.filterMap_cons, List.filterMap_nil, List.getElem?_toArray, List.getElem?_cons_succ, List.getElem?_cons_zero, Option.map_some]; repeat (first | (refine Ord.wpOrd_skip ?_ ?_; (focus (go_simp; (try (intro h; cases h)); done)); simp only [Act.put, List.setIfInBounds_toArray, List.set_cons_zero, List.set_cons_succ]) | (refine Ord.wpOrd_take (v := ?_) ?_ ?_ ?_; rotate_left; (focus (go_simp; done)); (focus (intro w' hSw; (try dsimp only at hSw); go_simp; (try with_reducible rfl); done)); simp only [Act.put, List.setIfInBounds_toArray, List.set_cons_zero, List.set_cons_succ])))
          (refine Ord.wpOrd_call ?_ (fun K hK => ?_); (focus (go_simp; done)); go_simp)
          go_at_call 144
          refine (Her.out _).mono ?_
          rintro r w5 ⟨rfl, hb5⟩
          have hb5' := below_go hb5 (Below.refl _ _).drew
          have hB5 := below_go hb5' (below_go hBr hB)
          have hB6 := below_go hb5' hBr
          (refine hK _ _ (by exact env_cells (blk_below Hblk.out hb5')) ?_; clear hK K; (try simp only [Act.put, List.setIfInBounds_toArray, List.set_cons_zero, List.set_cons_succ]); repeat (first | (refine Ord.wpOrd_skip ?_ ?_; (focus (go_simp; (try (intro h; cases h)); done)); simp only [Act.put, List.setIfInBounds_toArray, List.set_cons_zero, List.set_cons_succ]) | (refine Ord.wpOrd_take (v := ?_) ?_ ?_ ?_; rotate_left; (focus (go_simp; done)); (focus (intro w' hSw; (try dsimp only at hSw); go_simp; (try with_reducible rfl); done)); simp only [Act.put, List.setIfInBounds_toArray, List.set_cons_zero, List.set_cons_succ])))
          refine Ord.wpOrd_nil ?_
          go_wp2_with fail
          exact ⟨⟨1, by omega, by go_num, Hn1.out, hB5⟩, by simp only [intOf]; omega⟩
        | succ j =>
          have hcj := fun W (h : Below wr.heap.size wr W) => Hcell.out W h j (by omega)
          rw [Nat.add_sub_cancel] at Hat
          generalize (l.getD j L.zero).key = pk at hcj Hat
          have Hcj := Lib.hid hcj
          clear hcj
          generalize hls : Op.bytesLess pk e.key = le at Hat
          have hj1 : IntKind.i64.wrap (j : Int) = (j : Int) := by rw [IntKind.wrap_i64]; omega
          have hjn : j < l.length := by omega
          have hjn2 : (j : Int) < (l.length : Int) := by omega
          have hj0 : (0 : Int) ≤ (j : Int) := by omega
          cases le with
          | true =>
            have Hn1 := Lib.hid (show risTo l (j + 1 + 1) = true by rw [Hnx.out, Hat.out]; simp)
            (refine Ord.wp_region_ord [(false, 0), (true, 1), (false, 2), (false, 3), (false, 4), (false, 5), (false, 6), (false, 7), (false, 8), (false, 9), (false, 10), (false, 11), (false, 12), (false, 13), (false, 14), (false, 15), (false, 16), (false, 17)] (fun W => (W.cell? ⟨wr.heap.size, 0, none⟩ = some (.string (str e.key)) ∧ W.cell? ⟨wr.heap.size, 1, none⟩ = some (.int .i64 e.first) ∧ W.cell? ⟨wr.heap.size, 2, none⟩ = some (.int .i64 e.len)) ∧ W.cell? ⟨b, off + j * 3, none⟩ = some (.string (str pk))) (by kernel_rfl) (by kernel_rfl) (by kernel_rfl) (by kernel_rfl) (by exact ⟨env_cells (blk_below Hblk.out (Below.refl _ _).drew), Hcj.out _ (below_go (Below.refl _ _).drew hBr)⟩) ?_; simp only [Ord.ordOps, List.filterMap_cons, List.filterMap_nil, List.getElem?_toArray, List.getElem?_cons_succ, List.getElem?_cons_zero, Option.map_some]; repeat (first | (refine Ord.wpOrd_skip ?_ ?_; (focus (go_simp; (try (intro h; cases h)); done)); simp only [Act.put, List.setIfInBounds_toArray, List.set_cons_zero, List.set_cons_succ]) | (refine Ord.wpOrd_take (v := ?_) ?_ ?_ ?_; rotate_left; (focus (go_simp; done)); (focus (intro w' hSw; (try dsimp only at hSw); go_simp; (try with_reducible rfl); done)); simp only [Act.put, List.setIfInBounds_toArray, List.set_cons_zero, List.set_cons_succ])))
            (refine Ord.wpOrd_call ?_ (fun K hK => ?_); (focus (go_simp; done)); go_simp)
            go_at_call 144
            refine (Her.out _).mono ?_
            rintro r w5 ⟨rfl, hb5⟩
            have hb5' := below_go hb5 (Below.refl _ _).drew
            have hB5 := below_go hb5' (below_go hBr hB)
            have hB6 := below_go hb5' hBr
            (refine hK _ _ (by exact ⟨env_cells (blk_below Hblk.out hb5'), Hcj.out _ hB6⟩) ?_; clear hK K; (try simp only [Act.put, List.setIfInBounds_toArray, List.set_cons_zero, List.set_cons_succ]); repeat (first | (refine Ord.wpOrd_skip ?_ ?_; (focus (go_simp; (try (intro h; cases h)); done)); simp only [Act.put, List.setIfInBounds_toArray, List.set_cons_zero, List.set_cons_succ]) | (refine Ord.wpOrd_take (v := ?_) ?_ ?_ ?_; rotate_left; (focus (go_simp; done)); (focus (intro w' hSw; (try dsimp only at hSw); go_simp; (try with_reducible rfl); done)); simp only [Act.put, List.setIfInBounds_toArray, List.set_cons_zero, List.set_cons_succ])))
            refine Ord.wpOrd_nil ?_
            go_wp2_with fail
            exact ⟨⟨j + 1 + 1, by omega, by go_num, Hn1.out, hB5⟩, by simp only [intOf]; omega⟩
          | false =>
            have hrs : rising l = false := risTo_false (k := j + 1 + 1) (by rw [Hnx.out, Hat.out]; simp) (by omega)
            (refine Ord.wp_region_ord [(false, 0), (true, 1), (false, 2), (false, 3), (false, 4), (false, 5), (false, 6), (false, 7), (false, 8), (false, 9), (false, 10), (false, 11), (false, 12), (false, 13), (false, 14), (false, 15), (false, 16), (false, 17)] (fun W => (W.cell? ⟨wr.heap.size, 0, none⟩ = some (.string (str e.key)) ∧ W.cell? ⟨wr.heap.size, 1, none⟩ = some (.int .i64 e.first) ∧ W.cell? ⟨wr.heap.size, 2, none⟩ = some (.int .i64 e.len)) ∧ W.cell? ⟨b, off + j * 3, none⟩ = some (.string (str pk))) (by kernel_rfl) (by kernel_rfl) (by kernel_rfl) (by kernel_rfl) (by exact ⟨env_cells (blk_below Hblk.out (Below.refl _ _).drew), Hcj.out _ (below_go (Below.refl _ _).drew hBr)⟩) ?_; simp only [Ord.ordOps, List.filterMap_cons, List.filterMap_nil, List.getElem?_toArray, List.getElem?_cons_succ, List.getElem?_cons_zero, Option.map_some]; repeat (first | (refine Ord.wpOrd_skip ?_ ?_; (focus (go_simp; (try (intro h; cases h)); done)); simp only [Act.put, List.setIfInBounds_toArray, List.set_cons_zero, List.set_cons_succ]) | (refine Ord.wpOrd_take (v := ?_) ?_ ?_ ?_; rotate_left; (focus (go_simp; done)); (focus (intro w' hSw; (try dsimp only at hSw); go_simp; (try with_reducible rfl); done)); simp only [Act.put, List.setIfInBounds_toArray, List.set_cons_zero, List.set_cons_succ])))
            (refine Ord.wpOrd_call ?_ (fun K hK => ?_); (focus (go_simp; done)); go_simp)
            go_at_call 144
            refine (Her.out _).mono ?_
            rintro r w5 ⟨rfl, hb5⟩
            have hb5' := below_go hb5 (Below.refl _ _).drew
            have hB5 := below_go hb5' (below_go hBr hB)
            have hB6 := below_go hb5' hBr
            (refine hK _ _ (by exact ⟨env_cells (blk_below Hblk.out hb5'), Hcj.out _ hB6⟩) ?_; clear hK K; (try simp only [Act.put, List.setIfInBounds_toArray, List.set_cons_zero, List.set_cons_succ]); repeat (first | (refine Ord.wpOrd_skip ?_ ?_; (focus (go_simp; (try (intro h; cases h)); done)); simp only [Act.put, List.setIfInBounds_toArray, List.set_cons_zero, List.set_cons_succ]) | (refine Ord.wpOrd_take (v := ?_) ?_ ?_ ?_; rotate_left; (focus (go_simp; done)); (focus (intro w' hSw; (try dsimp only at hSw); go_simp; (try with_reducible rfl); done)); simp only [Act.put, List.setIfInBounds_toArray, List.set_cons_zero, List.set_cons_succ])))
            refine Ord.wpOrd_nil ?_
            go_wp2_with fail
            go_ret
            exact ⟨by rw [hrs]; rfl, hB5⟩
    · obtain rfl : k = l.length := by omega
      have hd1 : decide ((l.length : Int) < (l.length : Int)) = false := decide_eq_false (by omega)
      have hrs : rising l = true := Hs.out
      go_wp2_with fail
      go_ret
      exact ⟨by rw [hrs]; rfl, hB⟩
set_option maxRecDepth 100000 in
set_option maxHeartbeats 4000000 in
theorem Right_any (l : List L) (v : Value) (w : World) (hv : Rd w 3 v l.length (ls l)) (hn : l.length ≤ 1000000) (hk : ∀ e ∈ l, e.key.length ≤ 1000000) :
    Calls Try.prog 19 #[v] w fun r w' => r = .returned (.bool (right l)) ∧ Below w.heap.size w w' := by
  have hri := rising_any l v w hv (fun e he => by have := hk e he; unfold maxLen; omega)
  have hsi := fun w' (h : Below w.heap.size w w') => Size_any l v w' (hv.below h) hn hk
  have hr : right l = (rising l && decide (sizeTo l l.length ≤ 256)) := rfl
  generalize rising l = rt at hri hr
  generalize sizeTo l l.length = z at hsi hr
  rw [hr]
  obtain ⟨A, c, rfl, hc1, hc2, -⟩ := hv.slice_
  have Hri := Lib.hid hri
  have Hsi := Lib.hid hsi
  clear hri hsi hr hv hk
  cases rt with
  | false =>
    go_enter Try.func19, Try.ntmps19
    go_wp2_with (go_at_call 88; refine Hri.out.mono ?_; rintro r w2 ⟨rfl, hB⟩)
    go_ret
    exact ⟨rfl, hB⟩
  | true =>
    by_cases hz : z ≤ 256
    · have hd : decide ((z : Int) ≤ 256) = true := decide_eq_true (by omega)
      rw [decide_eq_true hz]
      go_enter Try.func19, Try.ntmps19
      go_wp2_with (first
        | (go_at_call 88; refine Hri.out.mono ?_; rintro r w2 ⟨rfl, hB⟩)
        | (go_at_call 20; refine (Hsi.out _ hB).mono ?_; rintro r w3 ⟨rfl, hB3⟩; have hB4 := below_go hB3 hB))
      go_ret
      exact ⟨rfl, hB4⟩
    · have hd : decide ((z : Int) ≤ 256) = false := decide_eq_false (by omega)
      rw [decide_eq_false hz]
      go_enter Try.func19, Try.ntmps19
      go_wp2_with (first
        | (go_at_call 88; refine Hri.out.mono ?_; rintro r w2 ⟨rfl, hB⟩)
        | (go_at_call 20; refine (Hsi.out _ hB).mono ?_; rintro r w3 ⟨rfl, hB3⟩; have hB4 := below_go hB3 hB))
      go_ret
      exact ⟨rfl, hB4⟩
end Go.Proofs.Ytcjabfdjngekfaa.Leaf
