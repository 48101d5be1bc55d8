/- Leaves that turn: a leaf with an entry. -/
import Derived.Test.YtcjabfdjngekfaaTurnW2
set_option linter.unusedVariables false
set_option linter.unusedSimpArgs false
namespace Go.Proofs.Ytcjabfdjngekfaa.Leaf
open Go.RowKit Go.Proofs.Ytcjabfdjngekfaa.Wd Go.Proofs.Ytcjabfdjngekfaa.Use Go.Proofs.Ytcjabfdjngekfaa.Lay
open Go.Proofs.Ytcjabfdjngekfaa.Rel (env_cells)

theorem withAt_length (l : List L) (e : L) (i : Nat) (hi : i ≤ l.length) : (withAt l e i false).length = l.length + 1 := by
  simp [withAt]; omega
theorem withAt_set (l : List L) (e : L) (i : Nat) (hi : i < l.length) : withAt l e i true = l.set i e := by
  rw [List.set_eq_take_append_cons_drop, if_pos hi]; rfl
theorem ls_set (l : List L) (e : L) (i : Nat) : ls (l.set i e) = (((ls l).set (i * 3) (.string (str e.key))).set (i * 3 + 1) (.int .i64 e.first)).set (i * 3 + 2) (.int .i64 e.len) := by
  induction l generalizing i with
  | nil => simp [ls]
  | cons a l ih =>
    cases i with
    | zero => simp [ls, L.cs]
    | succ i =>
      rw [List.set_cons_succ, ls_cons, ih, ls_cons, show (i + 1) * 3 = i * 3 + 3 by omega]
      simp [L.cs, show i * 3 + 3 + 1 = i * 3 + 1 + 3 by omega, show i * 3 + 3 + 2 = i * 3 + 2 + 3 by omega]
set_option maxRecDepth 100000 in
set_option maxHeartbeats 8000000 in
theorem With_any (l : List L) (e : L) (v : Value) (w : World) (hv : Rd w 3 v l.length (ls l)) (hn : l.length ≤ 1000000) (hk : ∀ e ∈ l, e.key.length ≤ 1000000) :
    Calls Try.prog 54 #[v, .agg #[.string (str e.key), .int .i64 e.first, .int .i64 e.len]] w fun r w' => Below w.heap.size w w' ∧ ((right l = false ∧ r = .returned (.slice none 0 0)) ∨ (right l = true ∧ ∃ i v', Place l e.key i ∧ r = .returned v' ∧ Rd w' 3 v' (withAt l e i (had l e.key l.length)).length (ls (withAt l e i (had l e.key l.length))))) := by
  have hB1 := below_one w (.cells #[.string (str e.key), .int .i64 e.first, .int .i64 e.len] 77)
  have hblk := heap_alloc_new w (.cells #[.string (str e.key), .int .i64 e.first, .int .i64 e.len] 77)
  obtain ⟨W1, hW1⟩ : ∃ W, W = w.alloc (.cells #[.string (str e.key), .int .i64 e.first, .int .i64 e.len] 77) := ⟨_, rfl⟩
  rw [← hW1] at hB1 hblk
  have hri := Right_any l v W1 (hv.below hB1) hn hk
  have Hcl := Lib.hid (fun W (h : Below W1.heap.size W1 W) => Clone_any l v W ((hv.below hB1).below h) hn)
  obtain ⟨A, c, rfl, hc1, hc2, -⟩ := hv.slice_
  unfold maxLen at hc2
  have HW1 := Lib.hid hW1
  clear hv hW1
  cases hr : right l with
  | false =>
    rw [hr] at hri
    have Hri := Lib.hid hri
    clear hri hblk hk
    go_enter Try.func54, Try.ntmps54
    go_upto_region 1 with fail
    rw [← HW1.out]
    go_wp2_with (go_at_call 19; refine Hri.out.mono ?_; rintro r w2 ⟨rfl, hb2⟩)
    go_ret
    exact ⟨below_go hb2 hB1, .inl ⟨trivial, rfl⟩⟩
  | true =>
    rw [hr] at hri
    have Hri := Lib.hid hri
    have Hfi := Lib.hid (fun v5 W (h : Rd W 3 v5 l.length (ls l)) => (Find_any l v5 e.key W h hn hk).mono (R' := fun r w' => ∃ i : Nat, Place l e.key i ∧ r = .returned (.tuple #[.int .i64 (i : Int), .bool (had l e.key l.length)]) ∧ Below W.heap.size W w') (by
      rintro r w' ⟨h1, ⟨h2, -⟩ | ⟨-, i, h2, h3⟩⟩
      · rw [hr] at h2; cases h2
      · exact ⟨i, h2, h3, h1⟩))
    have Hup := Lib.hid (rising_up (l := l) (by simp only [right, Bool.and_eq_true] at hr; exact hr.1))
    obtain ⟨g0, hg0⟩ : ∃ g, g = w.heap.size := ⟨_, rfl⟩
    rw [← hg0] at hblk
    have Hblk := Lib.hid hblk
    have hg0l : g0 < W1.heap.size := blk_lt hblk
    clear hri hblk hk hr
    go_enter Try.func54, Try.ntmps54
    go_upto_region 1 with fail
    rw [← HW1.out]
    rw [← hg0]
    clear hg0
    go_upto_region 4 with (first
      | (go_at_call 19; refine Hri.out.mono ?_; rintro r w2 ⟨rfl, hb2⟩)
      | (go_at_call 117; refine (Hcl.out _ hb2).mono ?_; rintro r w3 ⟨v5, rfl, ho5, hb3⟩))
    have hB3' := below_go hb3 hb2
    have hB3 := below_go hB3' hB1
    have Hb3 := Lib.hid (blk_below Hblk.out hB3')
    obtain ⟨c0, c1, c2⟩ := env_cells Hb3.out
    have hbase : g0 < w2.heap.size := by have := hb2.size; omega
    have hwl : w.heap.size ≤ w2.heap.size := by have := hb2.size; have := hB1.size; omega
    have Ho5 := Lib.hid ho5
    clear ho5 Hri Hcl hb2
    go_upto_if 20 with (go_at_call 51; refine (Hfi.out _ _ (Rd.of_own Ho5.out)).mono ?_; rintro r w4 ⟨i, hpl, rfl, hb4⟩)
    have hB4 := below_go hb4 hB3
    have Ho4 := Lib.hid (own_below Ho5.out hb4)
    have Hb4 := Lib.hid (blk_below Hb3.out hb4)
    have Hpl := Lib.hid hpl
    have Hhp := Lib.hid (had_place Hup.out hpl)
    have hbs : w2.heap.size ≤ w4.heap.size := by have := hb3.size; have := hb4.size; omega
    clear hb3 hb4 hpl Hfi Ho5 Hb3 c0 c1 c2
    obtain ⟨c0, c1, c2⟩ := env_cells Hb4.out
    cases hh : had l e.key l.length with
    | true =>
      have hh2 := Hhp.out
      rw [hh] at hh2
      simp only [Eq.comm (a := true), Bool.and_eq_true, decide_eq_true_eq, beq_iff_eq] at hh2
      obtain ⟨hil, -⟩ := hh2
      obtain ⟨g, cap, cur, hv5, hbg, hg, hnc, hcm, hcl, hct⟩ := Ord.own_open Ho4.out (by omega)
      subst hv5
      have hcell : ∀ j, j < cur.length → ∃ u, w4.cell? ⟨g, j, none⟩ = some u := fun j hj => ⟨cur[j], by rw [blk_cell hg]; simp [hj]⟩
      obtain ⟨u0, d0⟩ := hcell (i * 3) (by omega)
      obtain ⟨u1, d1⟩ := hcell (i * 3 + 1) (by omega)
      obtain ⟨u2, d2⟩ := hcell (i * 3 + 2) (by omega)
      have Hg := Lib.hid hg
      have hf0 := blk_frozen hg (i * 3)
      have hf1 := blk_frozen hg (i * 3 + 1)
      have hf2 := blk_frozen hg (i * 3 + 2)
      have hi2 : (i : Int) < (l.length : Int) := by omega
      have hi0 : (0 : Int) ≤ (i : Int) := by omega
      clear hg hcell
      go_wp2_with fail
      have h3 := blk_set (blk_set (blk_set Hg.out (i * 3) (.string (str e.key))) (i * 3 + 1) (.int .i64 e.first)) (i * 3 + 2) (.int .i64 e.len)
      simp only [List.setIfInBounds_toArray] at h3
      have hown := Ord.own_shut (base := w2.heap.size) (size := 3) (xs := ls (l.set i e)) hbg h3 hnc hcm (by simp only [List.length_set]; exact hcl) (by rw [List.take_set, List.take_set, List.take_set, hct, ls_set])
      go_ret
      have hgb : w.heap.size ≤ g := by omega
      refine ⟨((hB4.setCell (show w.heap.size ≤ (⟨g, i * 3, none⟩ : Addr).block from hgb) _).setCell (show w.heap.size ≤ (⟨g, i * 3 + 1, none⟩ : Addr).block from hgb) _).setCell (show w.heap.size ≤ (⟨g, i * 3 + 2, none⟩ : Addr).block from hgb) _, .inr ⟨trivial, i, _, Hpl.out, rfl, ?_⟩⟩
      rw [hh, withAt_set l e i hil, List.length_set]
      exact Rd.of_own hown
    | false =>
      have hil := Hpl.out.le
      have Hin := Lib.hid (Insert_any l e i v5 (w4.alloc (.cells e.cs.toArray 77)) w2.heap.size w4.heap.size (own_alloc Ho4.out _) hil hn (heap_alloc_new _ _) (fun h => by have := (Ho4.out.lt _ h).2; omega) (by rw [alloc_size]; omega))
      have Hob := Lib.hid (fun k (h : v5.ownBlock = some k) => own_base Ho4.out k h)
      clear Ho4
      go_wp2_with (go_at_call 118; refine Hin.out.mono ?_; rintro r w5 ⟨v6, rfl, ho6, hg6⟩)
      go_ret
      have hB5 := (hB4.alloc hB4.size (.cells e.cs.toArray 77)).grown hg6 (by have := hB4.size; rw [alloc_size]; omega) (fun k hk => by have := Hob.out k hk; omega)
      refine ⟨hB5, .inr ⟨trivial, i, _, Hpl.out, rfl, ?_⟩⟩
      rw [hh, withAt_length l e i hil]
      exact Rd.of_own ho6
end Go.Proofs.Ytcjabfdjngekfaa.Leaf
