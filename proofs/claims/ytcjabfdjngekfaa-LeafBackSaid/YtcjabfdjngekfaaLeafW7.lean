/- Leaves' walks: a leaf of a block. -/
import Derived.Test.YtcjabfdjngekfaaLeafOfPure
set_option linter.unusedVariables false
set_option linter.unusedSimpArgs false
namespace Go.Proofs.Ytcjabfdjngekfaa.Leaf
open Go.RowKit Go.Proofs.Ytcjabfdjngekfaa.Wd Go.Proofs.Ytcjabfdjngekfaa.Use Go.Proofs.Ytcjabfdjngekfaa.Lay
open Go.Proofs.Ytcjabfdjngekfaa.Rel (env_cells)

theorem elLeaf : El Try.prog 30 77 (.agg #[.string ⟨#[]⟩, .int .i64 0, .int .i64 0]) 3 32 := ⟨Try.underlying30, by kernel_rfl, rfl, by decide, by decide⟩
theorem ls_append' (l m : List L) : ls (l ++ m) = ls l ++ ls m := by simp [ls]
theorem ls_one' (l : List L) : ∀ u ∈ ls l, u.oneCell' = true := by
  intro u hu
  simp only [ls, List.mem_flatMap] at hu
  obtain ⟨e, -, he⟩ := hu
  simp only [L.cs, List.mem_cons, List.not_mem_nil, or_false] at he
  rcases he with rfl | rfl | rfl <;> rfl
theorem or8 (X y : Nat) (hX : X < 16777216) (hy : y < 256) : bits .or .i64 ((X : Int) * 256) (y : Int) = ((X * 256 + y : Nat) : Int) := by
  have h : X * 256 + y = (X * 256) ||| y := by
    rw [show X * 256 = X <<< 8 by rw [Nat.shiftLeft_eq], Nat.shiftLeft_add_eq_or_of_lt (by omega : y < 2 ^ 8)]
  have h1 : (BitVec.ofInt 64 ((X : Int) * 256)).toNat = X * 256 := by rw [BitVec.toNat_ofInt]; omega
  have h2 : (BitVec.ofInt 64 (y : Int)).toNat = y := by rw [BitVec.toNat_ofInt]; omega
  show IntKind.i64.wrap ((BitVec.ofInt 64 ((X : Int) * 256) ||| BitVec.ofInt 64 (y : Int)).toNat : Int) = _
  rw [BitVec.toNat_or, h1, h2, ← h, IntKind.wrap_i64]; omega
/-- a part of a row -/
theorem Rd_sub {w : World} {b off m c : Nat} {l : List UInt8} (h : Rd w 1 (.slice (some ⟨b, off, none⟩) m c) m (bs l)) (at_ n c' : Nat) (hn : at_ + n ≤ m) (off' : Nat) (ho : 0 < n → off' = off + at_) (h1 : n ≤ c') (h2 : c' ≤ c) : Rd w 1 (.slice (some ⟨b, off', none⟩) n c') n (bs ((l.drop at_).take n)) := by
  obtain ⟨hl, A', c1, hA, h3, h4, h5⟩ := h
  injection hA with hA1 _ hA3
  subst hA1 hA3
  rw [bs_length, Nat.mul_one] at hl
  refine ⟨by rw [bs_length, List.length_take, List.length_drop]; omega, _, _, rfl, h1, by omega, fun h0 => ?_⟩
  obtain ⟨b', o', hb, hc⟩ := h5 (by omega)
  injection hb with hb
  injection hb with hb1 hb2
  subst hb1 hb2
  refine ⟨b, off', rfl, fun i hi => ?_⟩
  rw [ho h0, Nat.add_assoc, hc (at_ + i) (by omega)]
  have e : bs ((l.drop at_).take n) = ((bs l).drop at_).take n := by simp [bs, List.map_take, List.map_drop]
  rw [e, List.getElem?_take, if_pos (by omega), List.getElem?_drop]
set_option maxRecDepth 100000 in
set_option maxHeartbeats 8000000 in
theorem Of_any (blk : List UInt8) (v : Value) (w : World) (hv : Rd w 1 v blk.length (bs blk)) :
    Calls Try.prog 23 #[v] w fun r w' => Below w.heap.size w w' ∧ ((blk.length ≠ 256 ∧ r = .returned (.tuple #[.slice none 0 0, .int .i64 2])) ∨ (blk.length = 256 ∧ ofB blk = none ∧ r = .returned (.tuple #[.slice none 0 0, .int .i64 11])) ∨ (blk.length = 256 ∧ ∃ l v', ofB blk = some l ∧ r = .returned (.tuple #[v', .int .i64 0]) ∧ Rd w' 3 v' l.length (ls l))) := by
  obtain ⟨A, c, rfl, hc1, hc2, -⟩ := hv.slice_
  unfold maxLen at hc2
  by_cases h256 : blk.length = 256
  rotate_left
  · have hd : ((blk.length : Int) != 256) = true := by rw [bne_iff_ne]; omega
    clear hv
    go_enter Try.func23, Try.ntmps23
    go_wp2_with fail
    go_ret2
    exact ⟨Below.refl _ _, .inl ⟨h256, rfl⟩⟩
  obtain ⟨B, off, rfl, hcell⟩ := bytes_at hv rfl (by omega)
  have hx0 := hcell 0 (by omega)
  rw [Nat.add_zero] at hx0
  obtain ⟨n, hn⟩ : ∃ n, n = bt blk 0 := ⟨_, rfl⟩
  have hn256 := bt_lt blk 0
  rw [← hn] at hn256
  change w.cell? ⟨B, off, none⟩ = some (.int .u8 ((bt blk 0 : Nat) : Int)) at hx0
  rw [← hn] at hx0
  rw [h256] at hv hc1
  have Hv := Lib.hid hv
  have Ht := Lib.hid (show Rd w 1 (.slice (some ⟨B, off + 1, none⟩) 255 (c - 1)) 255 (bs blk.tail) by
    have h := Rd_sub hv 1 255 (c - 1) (by omega) (off + 1) (fun _ => rfl) (by omega) (by omega)
    rw [List.drop_one, List.take_of_length_le (by rw [List.length_tail]; omega)] at h
    exact h)
  have Hn := Lib.hid hn
  have Htl := Lib.hid (show blk.tail.length = 255 by rw [List.length_tail, h256])
  have H256 := Lib.hid h256
  have Hnone := Lib.hid (show ∀ k, k ≤ n → stp blk.tail k = none → ofB blk = none from fun k hk h => by rw [ofB, ← hn, stp_none h hk])
  have Hof := Lib.hid (show ∀ l r, stp blk.tail n = some (l, r) → ofB blk = if okPut l && (block l == blk) then some l else none from fun l r h => by rw [ofB, ← hn, h])
  rw [h256]
  clear hv hcell hn h256
  have hc256 : (256 : Int) ≤ (c : Int) := by omega
  go_enter Try.func23, Try.ntmps23
  go_wp2_with fail
  go_loopw [4, 5, 19] (fun lv bv i wr => ∃ (k : Nat) (lk : List L) (rk : List UInt8), k ≤ n ∧ i = .int .i64 (k : Int) ∧ Hid (stp blk.tail k = some (lk, rk)) ∧ Hid (Rd w 1 bv rk.length (bs rk)) ∧ Hid (wr.ownsRow w.heap.size 77 3 lv k (ls lk)) ∧ Below w.heap.size w wr) (fun _ _ i _ => n - (intOf i).toNat)
  case atStart => exact ⟨0, [], blk.tail, Nat.zero_le _, rfl, Lib.hid rfl, Lib.hid (by rw [Htl.out]; exact Ht.out), Lib.hid (own_nil _ _ _ _), Below.refl _ _⟩
  case round =>
    clear Ht
    obtain ⟨k, lk, rk, hkn, rfl, Hst, Hr, Ho, hB⟩ := hrel
    obtain ⟨A, cm, rfl, hm1, hm2, -⟩ := Hr.out.slice_
    have hml : rk.length ≤ 255 := by have := (stp_len Hst.out).2.1; have := Htl.out; omega
    obtain ⟨m, hm⟩ : ∃ m, m = rk.length := ⟨_, rfl⟩
    have Hm := Lib.hid hm
    rw [← hm] at hm1 hml
    have Hr2 := Lib.hid (show Rd w 1 (.slice A m cm) m (bs rk) by rw [hm]; exact Hr.out)
    unfold maxLen at hm2
    rw [← hm]
    clear Hr hm
    by_cases hkl : k < n
    rotate_left
    · obtain rfl : k = n := by omega
      have hlk := stp_len Hst.out
      have hft := stp_fit Hst.out
      have hd1 : decide ((k : Int) < (k : Int)) = false := decide_eq_false (by omega)
      have hof := Hof.out lk rk Hst.out
      have hol := Ho.out
      rw [← hlk.1] at hol
      have hput := fun W (h : Below wr.heap.size wr W) => Put_any lk u4 W ((Rd.of_own hol).below h) (by omega) (fun e he => by
        obtain ⟨j, hj, rfl⟩ := List.mem_iff_getElem.1 he
        have := (hft j hj).1
        rw [List.getD_eq_getElem?_getD, List.getElem?_eq_getElem hj] at this
        exact Nat.le_trans this (by decide))
      have Hput := Lib.hid hput
      have Hof2 := Lib.hid hof
      have Hol := Lib.hid hol
      have Hlk := Lib.hid hlk.1
      clear hlk hft hof hol hput Hr2 Hst Ho Hof Hnone Hn
      cases hok : okPut lk with
      | false =>
        have Hz := Lib.hid (show ofB blk = none by rw [Hof2.out, hok]; rfl)
        have Hp := Lib.hid ((Hput.out wr (Below.refl _ _)).mono (R' := fun r w' => r = .returned (.tuple #[.slice none 0 0, .int .i64 2]) ∧ Below wr.heap.size wr w') (by
          rintro r w' ⟨h1, ⟨-, h2⟩ | ⟨h2, -⟩⟩
          · exact ⟨h2, h1⟩
          · rw [hok] at h2; cases h2))
        go_wp2_with (go_at_call 18; refine Hp.out.mono ?_; rintro r w2 ⟨rfl, hb2⟩)
        go_ret2
        exact ⟨below_go hb2 hB, .inr (.inl ⟨trivial, Hz.out, rfl⟩)⟩
      | true =>
        have Hp := Lib.hid ((Hput.out wr (Below.refl _ _)).mono (R' := fun r w' => ∃ b, r = .returned (.tuple #[b, .int .i64 0]) ∧ Rd w' 1 b 256 (bs (block lk)) ∧ Below wr.heap.size wr w') (by
          rintro r w' ⟨h1, ⟨h2, -⟩ | ⟨-, b, h2, h3⟩⟩
          · rw [hok] at h2; cases h2
          · exact ⟨b, h2, h3, h1⟩))
        have hbl : (block lk).length = 256 := block_length lk (by simp only [okPut, Bool.and_eq_true] at hok; exact hok.2)
        have Heq := Lib.hid (fun (W : World) (b : Value) (h : Rd W 1 b 256 (bs (block lk))) (h2 : Rd W 1 (.slice (some ⟨B, off, none⟩) 256 c) 256 (bs blk)) => slEqual_any (block lk) blk b (.slice (some ⟨B, off, none⟩) 256 c) W (by rw [hbl]; exact h) (by rw [H256.out]; exact h2))
        have hof3 := Hof2.out
        rw [hok, Bool.true_and] at hof3
        generalize (block lk == blk) = eq at Heq hof3
        have Hof3 := Lib.hid hof3
        clear hof3 Hof2 Hput hbl
        cases eq with
        | true =>
          go_wp2_with (first
            | (go_at_call 18; refine Hp.out.mono ?_; rintro r w2 ⟨bb, rfl, hrb, hb2⟩; have Hrb := Lib.hid hrb; have hB2 := below_go hb2 hB; have Hv2 := Lib.hid (Hv.out.below hB2); clear hrb)
            | (go_at_call 89; refine (Heq.out _ _ Hrb.out Hv2.out).mono ?_; rintro r w3 ⟨rfl, hb3⟩))
          go_ret2
          exact ⟨below_go hb3 hB2, .inr (.inr ⟨trivial, lk, _, Hof3.out, rfl, (Rd.of_own Hol.out).below (below_go hb3 hb2)⟩)⟩
        | false =>
          have Hz := Lib.hid (show ofB blk = none by rw [Hof3.out]; rfl)
          go_wp2_with (first
            | (go_at_call 18; refine Hp.out.mono ?_; rintro r w2 ⟨bb, rfl, hrb, hb2⟩; have Hrb := Lib.hid hrb; have hB2 := below_go hb2 hB; have Hv2 := Lib.hid (Hv.out.below hB2); clear hrb)
            | (go_at_call 89; refine (Heq.out _ _ Hrb.out Hv2.out).mono ?_; rintro r w3 ⟨rfl, hb3⟩))
          go_ret2
          exact ⟨below_go hb3 hB2, .inr (.inl ⟨trivial, Hz.out, rfl⟩)⟩
    have hd1 : decide ((k : Int) < (n : Int)) = true := decide_eq_true (by omega)
    by_cases h5 : 5 ≤ m
    rotate_left
    · have hd2 : decide ((m : Int) < 5) = true := decide_eq_true (by omega)
      have Hz := Lib.hid (Hnone.out (k + 1) (by omega) (stp_stop Hst.out (by rw [room, ← Hm.out, decide_eq_false h5]; rfl)))
      go_wp2_with fail
      go_ret2
      exact ⟨hB, .inr (.inl ⟨trivial, Hz.out, rfl⟩)⟩
    have hd2 : decide ((m : Int) < 5) = false := decide_eq_false (by omega)
    obtain ⟨b, o, rfl, hcell⟩ := bytes_at Hr2.out Hm.out (by omega)
    have hx := cell_below hB (hcell 0 (by omega))
    rw [Nat.add_zero] at hx
    change wr.cell? ⟨b, o, none⟩ = some (.int .u8 ((bt rk 0 : Nat) : Int)) at hx
    have hx256 := bt_lt rk 0
    have Hkeyr := Lib.hid (show m = rk.length → room rk = (decide (5 ≤ m) && decide (5 + bt rk 0 ≤ m)) from fun h => by rw [h]; rfl)
    have Hent := Lib.hid (show entOf rk = ⟨(rk.drop 1).take (bt rk 0), ((256 * bt rk (bt rk 0 + 1) + bt rk (bt rk 0 + 2) : Nat) : Int), ((256 * bt rk (bt rk 0 + 3) + bt rk (bt rk 0 + 4) : Nat) : Int)⟩ from rfl)
    have Hss := Lib.hid (fun h => stp_succ (b := blk.tail) (l := lk) (r := rk) (k := k) Hst.out h)
    obtain ⟨x, hxe⟩ : ∃ x, x = bt rk 0 := ⟨_, rfl⟩
    rw [← hxe] at hx hx256 Hkeyr Hent Hss
    clear hxe
    by_cases h6 : 5 + x ≤ m
    rotate_left
    · have hd3 : decide ((m : Int) < 5 + (x : Int)) = true := decide_eq_true (by omega)
      have Hz := Lib.hid (Hnone.out (k + 1) (by omega) (stp_stop Hst.out (by rw [Hkeyr.out Hm.out, decide_eq_false h6]; simp)))
      go_wp2_with fail
      go_ret2
      exact ⟨hB, .inr (.inl ⟨trivial, Hz.out, rfl⟩)⟩
    have hd3 : decide ((m : Int) < 5 + (x : Int)) = false := decide_eq_false (by omega)
    have Hroom := Lib.hid (show room rk = true by rw [Hkeyr.out Hm.out, decide_eq_true h6, decide_eq_true h5]; rfl)
    go_upto_region 11 with fail
    have he4 : x + 1 + 5 - 1 - (x + 1) = 4 := by omega
    rw [he4]
    have hy1 := hcell (x + 1) (by omega)
    have hy2 := hcell (x + 2) (by omega)
    have hy3 := hcell (x + 3) (by omega)
    have hy4 := hcell (x + 4) (by omega)
    have z1 := bt_lt rk (x + 1)
    have z2 := bt_lt rk (x + 2)
    have z3 := bt_lt rk (x + 3)
    have z4 := bt_lt rk (x + 4)
    change w.cell? _ = some (.int .u8 ((bt rk (x + 1) : Nat) : Int)) at hy1
    change w.cell? _ = some (.int .u8 ((bt rk (x + 2) : Nat) : Int)) at hy2
    change w.cell? _ = some (.int .u8 ((bt rk (x + 3) : Nat) : Int)) at hy3
    change w.cell? _ = some (.int .u8 ((bt rk (x + 4) : Nat) : Int)) at hy4
    generalize bt rk (x + 1) = y1 at hy1 z1 Hent
    generalize bt rk (x + 2) = y2 at hy2 z2 Hent
    generalize bt rk (x + 3) = y3 at hy3 z3 Hent
    generalize bt rk (x + 4) = y4 at hy4 z4 Hent
    have hkl2 : ((rk.drop 1).take x).length = x := by have := Hm.out; rw [List.length_take, List.length_drop]; omega
    have hkr := Rd_sub Hr2.out 1 x (cm - 1) (by omega) (o + 1) (fun _ => rfl) (by omega) (by omega)
    obtain ⟨key, hkey⟩ : ∃ key, key = (rk.drop 1).take x := ⟨_, rfl⟩
    rw [← hkey] at hkr Hent hkl2
    have Hcv := Lib.hid (fun W (h : Below w.heap.size w W) => conv_rd key (hkr.below h))
    have Hcw := Lib.hid (fun W (h : Below w.heap.size w W) => (show W.cell? ⟨b, o + (x + 1), none⟩ = some (.int .u8 (y1 : Int)) ∧ W.cell? ⟨b, o + (x + 1) + 1, none⟩ = some (.int .u8 (y2 : Int)) ∧ W.cell? ⟨b, o + (x + 1) + 2, none⟩ = some (.int .u8 (y3 : Int)) ∧ W.cell? ⟨b, o + (x + 1) + 3, none⟩ = some (.int .u8 (y4 : Int)) from ⟨cell_below h hy1, by have := cell_below h hy2; rw [show o + (x + 1) + 1 = o + (x + 2) by omega]; exact this, by have := cell_below h hy3; rw [show o + (x + 1) + 2 = o + (x + 3) by omega]; exact this, by have := cell_below h hy4; rw [show o + (x + 1) + 3 = o + (x + 4) by omega]; exact this⟩))
    have e1 : bits .or .i64 (IntKind.i64.wrap (IntKind.i64.wrap (y1 : Int) * 256)) (IntKind.i64.wrap (y2 : Int)) = ((256 * y1 + y2 : Nat) : Int) := by
      rw [show IntKind.i64.wrap (y1 : Int) = (y1 : Int) by rw [IntKind.wrap_i64]; omega, show IntKind.i64.wrap (y2 : Int) = (y2 : Int) by rw [IntKind.wrap_i64]; omega, show IntKind.i64.wrap ((y1 : Int) * 256) = (y1 : Int) * 256 by rw [IntKind.wrap_i64]; omega, or8 y1 y2 (by omega) z2, Nat.mul_comm]
    have e2 : bits .or .i64 (IntKind.i64.wrap (IntKind.i64.wrap (y3 : Int) * 256)) (IntKind.i64.wrap (y4 : Int)) = ((256 * y3 + y4 : Nat) : Int) := by
      rw [show IntKind.i64.wrap (y3 : Int) = (y3 : Int) by rw [IntKind.wrap_i64]; omega, show IntKind.i64.wrap (y4 : Int) = (y4 : Int) by rw [IntKind.wrap_i64]; omega, show IntKind.i64.wrap ((y3 : Int) * 256) = (y3 : Int) * 256 by rw [IntKind.wrap_i64]; omega, or8 y3 y4 (by omega) z4, Nat.mul_comm]
    have hcm0 : ¬ cm = 1 := by omega
    have hn1 : 1 ≤ x + 1 := by omega
    have hn2 : (1 : Int) ≤ (x : Int) + 1 := by omega
    have hn3 : (x : Int) + 1 ≤ (cm : Int) := by omega
    clear hcell hy1 hy2 hy3 hy4 hkr hkey
    (refine Ord.wp_region_ord [(false, 0), (false, 1), (false, 2), (false, 3), (false, 4), (false, 5), (false, 6), (false, 7), (false, 8), (false, 9), (false, 10), (false, 11), (false, 12), (false, 13), (false, 14), (false, 15), (false, 16), (false, 17), (false, 18), (false, 19), (false, 20), (false, 21), (false, 22), (false, 23), (false, 24), (false, 25), (true, 26), (true, 27), (false, 28)] (fun W => (W.cell? ⟨b, o + (x + 1), none⟩ = some (.int .u8 (y1 : Int)) ∧ W.cell? ⟨b, o + (x + 1) + 1, none⟩ = some (.int .u8 (y2 : Int)) ∧ W.cell? ⟨b, o + (x + 1) + 2, none⟩ = some (.int .u8 (y3 : Int)) ∧ W.cell? ⟨b, o + (x + 1) + 3, none⟩ = some (.int .u8 (y4 : Int))) ∧ (convert 23 9 (.slice (some ⟨b, o + 1, none⟩) x (cm - 1))).run Try.prog W = .ok (.string (str key)) W) (by kernel_rfl) (by kernel_rfl) (by kernel_rfl) (by kernel_rfl) (by exact ⟨Hcw.out _ hB.drew, Hcv.out _ hB.drew⟩) ?_; simp only [Ord.ordOps, List.filterMap_cons, List.filterMap_nil, List.getElem?_toArray, List.getElem?_cons_succ, List.getElem?_cons_zero, Option.map_some]; repeat (first | (refine Ord.wpOrd_skip ?_ ?_; (focus (go_simp; (try (intro h; cases h)); done)); simp only [Act.put, List.setIfInBounds_toArray, List.set_cons_zero, List.set_cons_succ]) | (refine Ord.wpOrd_take (v := ?_) ?_ ?_ ?_; rotate_left; (focus (go_simp; done)); (focus (intro w' hSw; (try dsimp only at hSw); go_simp; (try with_reducible rfl); done)); simp only [Act.put, List.setIfInBounds_toArray, List.set_cons_zero, List.set_cons_succ])))
    (refine Ord.wpOrd_call ?_ (fun K hK => ?_); (focus (go_simp; done)); go_simp)
    have Hent2 := Lib.hid (show entOf rk = ⟨key, 256 * (y1 : Int) + (y2 : Int), 256 * (y3 : Int) + (y4 : Int)⟩ by rw [Hent.out]; simp only [Int.natCast_add, Int.natCast_mul, Int.cast_ofNat_Int])
    have hBd : Below wr.heap.size wr (wr.alloc (.cells #[.string (str key), .int .i64 (256 * (y1 : Int) + (y2 : Int)), .int .i64 (256 * (y3 : Int) + (y4 : Int))] 77)).drew := (below_one _ _).drew
    have hB1 := below_go hBd hB
    (refine hK _ _ (by exact ⟨Hcw.out _ hB1, Hcv.out _ hB1⟩) ?_; clear hK K; (try simp only [Act.put, List.setIfInBounds_toArray, List.set_cons_zero, List.set_cons_succ]); repeat (first | (refine Ord.wpOrd_skip ?_ ?_; (focus (go_simp; (try (intro h; cases h)); done)); simp only [Act.put, List.setIfInBounds_toArray, List.set_cons_zero, List.set_cons_succ]) | (refine Ord.wpOrd_take (v := ?_) ?_ ?_ ?_; rotate_left; (focus (go_simp; done)); (focus (intro w' hSw; (try dsimp only at hSw); go_simp; (try with_reducible rfl); done)); simp only [Act.put, List.setIfInBounds_toArray, List.set_cons_zero, List.set_cons_succ])))
    have hRl := Rd.lit wr 3 1 (ls [⟨key, (256 * (y1 : Int) + (y2 : Int)), (256 * (y3 : Int) + (y4 : Int))⟩]) 77 rfl (by simp [maxLen])
    refine Ord.wpOrd_app_row elLeaf ?_ (.tmp 45) (.tmp 71) rfl w.heap.size u4 _ k 1 (ls lk) (ls [⟨key, (256 * (y1 : Int) + (y2 : Int)), (256 * (y3 : Int) + (y4 : Int))⟩]) rfl rfl (ls_one' _) (own_below Ho.out hBd) hRl hB1.size (by omega) (fun v1 w1 ho1 hg1 hat1 => ?_)
    · go_simp
    have hB2 := hB1.grown hg1 hB1.size (own_base Ho.out)
    rw [← ls_append', ← Hent2.out] at ho1
    refine ⟨⟨Hcw.out _ hB2, Hcv.out _ hB2⟩, ?_⟩
    have Ho1 := Lib.hid ho1
    clear ho1 hg1 hat1 hRl hBd hB1 Ho hB
    ((try simp only [Act.put, List.setIfInBounds_toArray, List.set_cons_zero, List.set_cons_succ]); repeat (first | (refine Ord.wpOrd_skip ?_ ?_; (focus (go_simp; (try (intro h; cases h)); done)); simp only [Act.put, List.setIfInBounds_toArray, List.set_cons_zero, List.set_cons_succ]) | (refine Ord.wpOrd_take (v := ?_) ?_ ?_ ?_; rotate_left; (focus (go_simp; done)); (focus (intro w' hSw; (try dsimp only at hSw); go_simp; (try with_reducible rfl); done)); simp only [Act.put, List.setIfInBounds_toArray, List.set_cons_zero, List.set_cons_succ])))
    refine Ord.wpOrd_nil ?_
    go_wp2_with fail
    have e5 : x + 1 + 5 - 1 = x + 5 := by omega
    have e6 : (rk.drop (x + 5)).length = m - (x + 5) := by rw [List.length_drop, ← Hm.out]
    have e7 : (rk.drop (x + 5)).take (m - (x + 5)) = rk.drop (x + 5) := List.take_of_length_le (by rw [e6]; exact Nat.le_refl _)
    refine ⟨⟨k + 1, lk ++ [entOf rk], rk.drop (x + 5), by omega, by go_num, Lib.hid (Hss.out Hroom.out), Lib.hid ?_, Ho1, hB2⟩, by simp only [intOf]; omega⟩
    rw [e5, e6]
    by_cases hq : cm = x + 5
    · rw [if_pos hq]
      have h := Rd_sub Hr2.out (x + 5) (m - (x + 5)) (cm - (x + 5)) (by omega) o (fun h => by omega) (by omega) (by omega)
      rw [e7] at h
      exact h
    · rw [if_neg hq]
      have h := Rd_sub Hr2.out (x + 5) (m - (x + 5)) (cm - (x + 5)) (by omega) (o + (x + 5)) (fun _ => rfl) (by omega) (by omega)
      rw [e7] at h
      exact h
end Go.Proofs.Ytcjabfdjngekfaa.Leaf
