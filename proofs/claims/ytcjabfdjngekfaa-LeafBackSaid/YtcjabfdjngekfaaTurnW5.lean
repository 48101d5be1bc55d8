/- Leaves that turn: DeleteFunc, Without. -/
import Derived.Test.YtcjabfdjngekfaaTurnW4
set_option linter.unusedVariables false
set_option linter.unusedSimpArgs false
namespace Go.Proofs.Ytcjabfdjngekfaa.Leaf
open Go.RowKit Go.Proofs.Ytcjabfdjngekfaa.Wd Go.Proofs.Ytcjabfdjngekfaa.Use Go.Proofs.Ytcjabfdjngekfaa.Lay
open Go.Proofs.Ytcjabfdjngekfaa.Rel (env_cells)

theorem without_had (l : List L) (key : List UInt8) (i : Nat) (hi : i ≤ l.length) (h : had l key i = false) : without (l.take i) key = l.take i := by
  rw [without, List.filter_eq_self]
  intro e he
  obtain ⟨j, hj, rfl⟩ := List.mem_iff_getElem.1 he
  rw [List.length_take] at hj
  rw [bne_iff_ne]
  intro hk
  rw [List.getElem_take] at hk
  have : had l key i = true := (had_iff l key _).2 ⟨j, by omega, by rw [ky, List.getD_eq_getElem?_getD, List.getElem?_eq_getElem (by omega : j < l.length)]; exact hk⟩
  rw [this] at h; cases h
def zent : Value := .agg #[.string ⟨#[]⟩, .int .i64 0, .int .i64 0]
theorem zent_run (W : World) : (zeroValue 77).run Try.prog W = .ok zent W := by kernel_rfl
theorem zent_one (n : Nat) : ∀ v ∈ (Builtin.zeroCells zent.cells n).toList, v.oneCell' = true := by
  intro v hv
  simp only [Builtin.zeroCells, zent, Value.cells, Array.toList_map, List.mem_map] at hv
  obtain ⟨k, -, rfl⟩ := hv
  have h : k % 3 = 0 ∨ k % 3 = 1 ∨ k % 3 = 2 := by omega
  show (#[Value.string ⟨#[]⟩, .int .i64 0, .int .i64 0][k % 3]!).oneCell' = true
  rcases h with h | h | h <;> rw [h] <;> rfl
theorem zent_size (n : Nat) : (Builtin.zeroCells zent.cells n).size = n * 3 := by
  simp [Builtin.zeroCells, zent, Value.cells]
set_option maxRecDepth 100000 in
set_option maxHeartbeats 8000000 in
theorem Delete_any (l : List L) (v : Value) (key : List UInt8) (g0 : Nat) (w : World) (base : Nat) (ho : w.ownsRow base 77 3 v l.length (ls l)) (h : w.cell? ⟨g0, 0, none⟩ = some (.string (str key))) (hne : v.ownBlock ≠ some g0) :
    Calls Try.prog 119 #[v, .func (.func 120) #[] #[.pointer (some ⟨g0, 0, none⟩)]] w fun r w' => ∃ v', r = .returned v' ∧ w'.ownsRow base 77 3 v' (without l key).length (ls (without l key)) ∧ w.grownBy w' v.ownBlock := by
  have hix := index_any l v key g0 w (Rd.of_own ho) h
  cases hh : had l key l.length with
  | false =>
    have hw := without_none hh
    have Hix := Lib.hid (hix.mono (R' := fun r w' => r = .returned (.int .i64 (-1)) ∧ Below w.heap.size w w') (by
      rintro r w' ⟨h1, ⟨-, h2⟩ | ⟨i, h2, h3, -⟩⟩
      · exact ⟨h2, h1⟩
      · have : had l key l.length = true := (had_iff l key _).2 ⟨i, h2, h3⟩
        rw [this] at hh; cases hh))
    rw [hw]
    have Ho := Lib.hid ho
    obtain ⟨A, c, hv, -⟩ := (Rd.of_own ho).slice_
    subst hv
    have Hob := Lib.hid (show ∀ w1, Below w.heap.size w w1 → w.grownBy w1 (Value.slice A l.length c).ownBlock from fun w1 h => grown_below h _)
    clear hix ho h hne hw hh
    go_enter Try.func119, Try.ntmps119
    go_wp2_with (go_at_call 159; refine Hix.out.mono ?_; rintro r w2 ⟨rfl, hb2⟩)
    go_ret
    exact ⟨_, rfl, own_below Ho.out hb2, Hob.out _ hb2⟩
  | true =>
    have Hix := Lib.hid (hix.mono (R' := fun r w' => ∃ i : Nat, i < l.length ∧ ky l i = key ∧ had l key i = false ∧ r = .returned (.int .i64 (i : Int)) ∧ Below w.heap.size w w') (by
      rintro r w' ⟨h1, ⟨h2, -⟩ | ⟨i, h2, h3, h4, h5⟩⟩
      · rw [hh] at h2; cases h2
      · exact ⟨i, h2, h3, h4, h5, h1⟩))
    have hl0 : 0 < l.length := by
      obtain ⟨j, hj, -⟩ := (had_iff l key _).1 hh
      omega
    obtain ⟨g, cap, cur, hv2, hbg, hg, hnc, hcm, hcl, hct⟩ := Ord.own_open ho hl0
    have hgne : g ≠ g0 := by intro h; rw [hv2] at hne; exact hne (by rw [h]; rfl)
    subst hv2
    have hob : (Value.slice (some ⟨g, 0, none⟩) l.length cap).ownBlock = some g := rfl
    rw [hob]
    have hcm2 := hcm
    unfold maxLen at hcm2
    have Hg := Lib.hid hg
    have Hct := Lib.hid hct
    have Hk := Lib.hid h
    have Hlen := Lib.hid (show ∀ j, (without (l.take j) key).length ≤ j from fun j => without_le l key j)
    have hgl := blk_lt hg
    clear hix ho h hne hh hg hct
    go_enter Try.func119, Try.ntmps119
    go_upto_if 12 with (go_at_call 159; refine Hix.out.mono ?_; rintro r w2 ⟨i0, hi0, hki, hha, rfl, hb2⟩; have hd' : ((i0 : Int) == -1) = false := by rw [beq_eq_false_iff_ne]; omega)
    have HD0 := Lib.hid (show DR l key cap w2 g g0 (i0 + 1) cur ∧ (without (l.take (i0 + 1)) key).length = i0 by
      have e0 : without (l.take i0) key = l.take i0 := without_had l key i0 (by omega) hha
      have D : DR l key cap w2 g g0 i0 cur := ⟨blk_below Hg.out hb2, hcl, by
        have hx : (l.take i0).length = i0 := by rw [List.length_take]; omega
        rw [e0, hx, ls_take, ← Hct.out, List.take_take]
        congr 1; omega, fun q h1 h2 => by rw [← Hct.out, List.getElem?_take, if_pos h2], cell_below hb2 Hk.out⟩
      have h1 := D.skip hi0 (beq_iff_eq.2 hki)
      refine ⟨h1.1, by rw [h1.2, e0, List.length_take]; omega⟩)
    have Hgr := Lib.hid (show w.grownBy w2 (some g) from grown_below hb2 _)
    clear hki hha hb2 Hix Hg Hct Hk
    go_wp2_with fail
    go_loopw [5, 6] (fun i_ j_ wr => ∃ (i j : Nat) (cur' : List Value), j ≤ l.length ∧ i < j ∧ i_ = .int .i64 (i : Int) ∧ j_ = .int .i64 (j : Int) ∧ Hid (i = (without (l.take j) key).length) ∧ Hid (DR l key cap wr g g0 j cur') ∧ Hid (w.grownBy wr (some g))) (fun _ j_ _ => l.length - (intOf j_).toNat)
    case atStart => exact ⟨i0, i0 + 1, cur, by omega, by omega, rfl, by go_num, Lib.hid HD0.out.2.symm, Lib.hid HD0.out.1, Hgr⟩
    case round =>
      clear HD0 Hgr
      obtain ⟨i, j, cur', hjl, hij, rfl, rfl, Hi, HD, Hgr⟩ := hrel
      by_cases hjn : j < l.length
      rotate_left
      · obtain rfl : j = l.length := by omega
        have hd1 : decide ((l.length : Int) < (l.length : Int)) = false := decide_eq_false (by omega)
        have hw : without (l.take l.length) key = without l key := by rw [List.take_of_length_le (Nat.le_refl _)]
        have hi := Hi.out
        rw [hw] at hi
        have hD := HD.out
        have hfr := hD.fr
        rw [hw, ← hi] at hfr
        have hcl2 : ∀ ty, (Builtin.clear_ #[30] ty #[.slice (some ⟨g, i * 3, none⟩) (l.length - i) (cap - i)]).run Try.prog wr = .ok (.tuple #[]) (wr.setRow g (cur'.take (i * 3) ++ (Builtin.zeroCells zent.cells (l.length - i)).toList ++ cur'.drop (i * 3 + (Builtin.zeroCells zent.cells (l.length - i)).toList.length)).toArray) := fun ty =>
          Ord.run_clear_k wr _ ty 77 zent g (i * 3) (l.length - i) (cap - i) cur' 77 Try.underlying30 zent_run (by omega) hD.hp (by rw [zent_size, hD.ln]; omega) (zent_one _)
        have hzl : (Builtin.zeroCells zent.cells (l.length - i)).toList.length = (l.length - i) * 3 := by rw [Array.length_toList, zent_size]
        obtain ⟨N, hN⟩ : ∃ N, N = cur'.take (i * 3) ++ (Builtin.zeroCells zent.cells (l.length - i)).toList ++ cur'.drop (i * 3 + (Builtin.zeroCells zent.cells (l.length - i)).toList.length) := ⟨_, rfl⟩
        rw [← hN] at hcl2
        have hln := hD.ln
        have hNl : N.length = cap * 3 := by rw [hN]; simp only [List.length_append, List.length_take, List.length_drop, hzl]; omega
        have hNt : N.take (i * 3) = ls (without l key) := by
          rw [hN, List.append_assoc, List.take_left' (by rw [List.length_take]; omega)]; exact hfr
        have Hcl2 := Lib.hid hcl2
        have hg4 : (wr.setRow g N.toArray).heap[g]? = some (.cells N.toArray 77 (0, 0)) := setRow_heap wr g _ _ _ _ hD.hp
        have Hown := Lib.hid (show (wr.setRow g N.toArray).ownsRow base 77 3 (.slice (some ⟨g, 0, none⟩) i cap) i (ls (without l key)) from Ord.own_shut hbg hg4 (by omega) hcm hNl hNt)
        have Hgr4 := Lib.hid (show w.grownBy (wr.setRow g N.toArray) (some g) from Hgr.out.trans (Ord.setRow_grown _ _ _))
        have Hi2 := Lib.hid hi
        have hin : (i : Int) ≤ (l.length : Int) := by omega
        have hcn : ¬ cap = i := by omega
        clear hcl2 hg4 hNt hNl hN hzl hfr hD hi Hi HD Hgr hw hln
        go_wp2_with (refine Ord.wpList_clear_run wr rfl (.tmp 38) 30 rfl (.slice (some ⟨g, i * 3, none⟩) (l.length - i) (cap - i)) rfl (Hcl2.out _) ?_)
        go_ret
        exact ⟨_, rfl, by rw [← Hi2.out]; exact Hown.out, Hgr4.out⟩
      have hd1 : decide ((j : Int) < (l.length : Int)) = true := decide_eq_true (by omega)
      obtain ⟨c0, c1, c2⟩ := HD.out.cells hjn
      have hde := fun W h => del1_any (l.getD j L.zero) key g0 W h
      have Hsk := Lib.hid (fun (W : World) (h : DR l key cap W g g0 j cur') => h.skip hjn)
      have Hke := Lib.hid (fun (W : World) (h : DR l key cap W g g0 j cur') => h.keep hjn hnc Hi.out hij hgne)
      generalize l.getD j L.zero = e at c0 c1 c2 hde Hsk Hke
      obtain ⟨ek, first, len⟩ := e
      simp only at c0 c1 c2 hde Hsk Hke
      have hj2 : (j : Int) < (l.length : Int) := by omega
      have Hblk := Lib.hid (heap_alloc_new wr (.cells #[.string (str ek), .int .i64 first, .int .i64 len] 77))
      have hB1 := below_one wr (.cells #[.string (str ek), .int .i64 first, .int .i64 len] 77)
      have Hc1 := Lib.hid (cell_below hB1 HD.out.ky)
      cases hk : (ek == key) with
      | true =>
        rw [hk] at hde
        have Hde := Lib.hid hde
        have Hs2 := Lib.hid (fun W h => Hsk.out W h hk)
        clear hde hk Hsk Hke
        go_wp2_with (go_at_call 120; refine (Hde.out _ Hc1.out).mono ?_; rintro r w3 ⟨rfl, hb3⟩)
        have hB3 := below_go hb3 hB1
        have h := Hs2.out w3 (HD.out.below hB3)
        exact ⟨⟨i, j + 1, cur', by omega, by omega, rfl, by go_num, Lib.hid (by rw [h.2]; exact Hi.out), Lib.hid h.1, Lib.hid (Hgr.out.trans (grown_below hB3 _))⟩, by simp only [intOf]; omega⟩
      | false =>
        rw [hk] at hde
        have Hde := Lib.hid hde
        have Hs2 := Lib.hid (fun W h => Hke.out W h hk)
        clear hde hk Hsk Hke
        go_upto_if 29 with (go_at_call 120; refine (Hde.out _ Hc1.out).mono ?_; rintro r w3 ⟨rfl, hb3⟩)
        have hB3 := below_go hb3 hB1
        have hD3 := HD.out.below hB3
        have h := Hs2.out w3 hD3
        obtain ⟨e0, e1, e2⟩ := env_cells (blk_below Hblk.out hb3)
        have hln := hD3.ln
        have hcell : ∀ q, q < cur'.length → ∃ u, w3.cell? ⟨g, q, none⟩ = some u := fun q hq => ⟨cur'[q], by rw [blk_cell hD3.hp]; simp [hq]⟩
        obtain ⟨u0, d0⟩ := hcell (i * 3) (by omega)
        obtain ⟨u1, d1⟩ := hcell (i * 3 + 1) (by omega)
        obtain ⟨u2, d2⟩ := hcell (i * 3 + 2) (by omega)
        have hf0 := blk_frozen hD3.hp (i * 3)
        have hf1 := blk_frozen hD3.hp (i * 3 + 1)
        have hf2 := blk_frozen hD3.hp (i * 3 + 2)
        have Hn := Lib.hid h
        have Hgr3 := Lib.hid (Hgr.out.trans (grown_below hB3 (some g)))
        have hi2 : (i : Int) < (l.length : Int) := by omega
        have hi0' : (0 : Int) ≤ (i : Int) := by omega
        clear hcell h hD3 hB3 c0 c1 c2 hb3 hB1 HD Hgr
        go_wp2_with fail
        exact ⟨⟨i + 1, j + 1, _, by omega, by omega, by go_num, by go_num, Lib.hid Hn.out.2.symm, Lib.hid Hn.out.1, Lib.hid (((Hgr3.out.trans (grown_setCell _ _ _ _)).trans (grown_setCell _ _ _ _)).trans (grown_setCell _ _ _ _))⟩, by simp only [intOf]; omega⟩
set_option maxRecDepth 100000 in
set_option maxHeartbeats 8000000 in
theorem Without_any (l : List L) (key : List UInt8) (v : Value) (w : World) (hv : Rd w 3 v l.length (ls l)) (hn : l.length ≤ 1000000) (hk : ∀ e ∈ l, e.key.length ≤ 1000000) :
    Calls Try.prog 55 #[v, .string (str key)] w fun r w' => Below w.heap.size w w' ∧ ((right l = false ∧ r = .returned (.slice none 0 0)) ∨ (right l = true ∧ ∃ v', r = .returned v' ∧ Rd w' 3 v' (without l key).length (ls (without l key)))) := by
  have hB1 := below_one w (.cells #[.string (str key)] 9)
  have hblk := heap_alloc_new w (.cells #[.string (str key)] 9)
  obtain ⟨W1, hW1⟩ : ∃ W, W = w.alloc (.cells #[.string (str key)] 9) := ⟨_, rfl⟩
  rw [← hW1] at hB1 hblk
  have hri := Right_any l v W1 (hv.below hB1) hn hk
  have Hcl := Lib.hid (fun W (h : Below W1.heap.size W1 W) => Clone_any l v W ((hv.below hB1).below h) hn)
  obtain ⟨A, c, rfl, hc1, hc2, -⟩ := hv.slice_
  unfold maxLen at hc2
  have HW1 := Lib.hid hW1
  clear hv hW1
  cases hr : right l with
  | false =>
    rw [hr] at hri
    have Hri := Lib.hid hri
    clear hri hblk hk
    go_enter Try.func55, Try.ntmps55
    go_upto_region 1 with fail
    rw [← HW1.out]
    go_wp2_with (go_at_call 19; refine Hri.out.mono ?_; rintro r w2 ⟨rfl, hb2⟩)
    go_ret
    exact ⟨below_go hb2 hB1, .inl ⟨trivial, rfl⟩⟩
  | true =>
    rw [hr] at hri
    have Hri := Lib.hid hri
    obtain ⟨g0, hg0⟩ : ∃ g, g = w.heap.size := ⟨_, rfl⟩
    rw [← hg0] at hblk
    have Hc0 := Lib.hid (show W1.cell? ⟨g0, 0, none⟩ = some (.string (str key)) by rw [blk_cell hblk]; rfl)
    have hg0l : g0 < W1.heap.size := blk_lt hblk
    have hwl : w.heap.size ≤ W1.heap.size := hB1.size
    have Hde := Lib.hid (fun v5 W base (h1 : W.ownsRow base 77 3 v5 l.length (ls l)) (h2 : W.cell? ⟨g0, 0, none⟩ = some (.string (str key))) (h3 : v5.ownBlock ≠ some g0) => Delete_any l v5 key g0 W base h1 h2 h3)
    clear hri hblk hk
    go_enter Try.func55, Try.ntmps55
    go_upto_region 1 with fail
    rw [← HW1.out]
    rw [← hg0]
    clear hg0
    go_wp2_with (first
      | (go_at_call 19; refine Hri.out.mono ?_; rintro r w2 ⟨rfl, hb2⟩)
      | (go_at_call 117; refine (Hcl.out _ hb2).mono ?_; rintro r w3 ⟨v5, rfl, ho5, hb3⟩; have hB3 := below_go hb3 hb2; have Ho5 := Lib.hid ho5; have hs2 := hb2.size; have Hne := Lib.hid (fun (h : v5.ownBlock = some g0) => (show False by have := own_base Ho5.out g0 h; omega)); clear ho5)
      | (go_at_call 119; refine (Hde.out _ _ _ Ho5.out (cell_below hB3 Hc0.out) Hne.out).mono ?_; rintro r w4 ⟨v6, rfl, ho6, hg6⟩))
    have hB5 := (below_go hB3 hB1).grown hg6 (by have := hb3.size; omega) (fun k hk => by have := own_base Ho5.out k hk; omega)
    go_ret
    exact ⟨hB5, .inr ⟨trivial, _, rfl, Rd.of_own ho6⟩⟩
end Go.Proofs.Ytcjabfdjngekfaa.Leaf
