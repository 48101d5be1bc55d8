/- Leaves' walks: the reference's leaf of a block. -/
import Derived.Test.YtcjabfdjngekfaaLeafW5
import Derived.Test.YtcjabfdjngekfaaLeafW6
import Derived.Test.YtcjabfdjngekfaaLeafOfPure
set_option linter.unusedVariables false
set_option linter.unusedSimpArgs false
namespace Go.Proofs.Ytcjabfdjngekfaa.Leaf
open Go.RowKit Go.Proofs.Ytcjabfdjngekfaa.Wd Go.Proofs.Ytcjabfdjngekfaa.Use Go.Proofs.Ytcjabfdjngekfaa.Lay
open Go.Proofs.Ytcjabfdjngekfaa.Rel (env_cells)

theorem bt_drop (b : List UInt8) (p i : Nat) : bt (b.drop p) i = bt b (p + i) := by
  simp [bt, List.getD_eq_getElem?_getD, List.getElem?_drop]
/-- how long a text is -/
def strLen : Value → Nat
  | .string s => s.size
  | _ => 0
theorem str_sub (l : List UInt8) (a n : Nat) : (str l).extract a (a + n) = str ((l.drop a).take n) := by
  apply ByteArray.ext
  simp [str, ByteArray.data_extract]
set_option maxRecDepth 100000 in
set_option maxHeartbeats 8000000 in
theorem rOf_any (blk : List UInt8) (w : World) (h256 : blk.length = 256) :
    Calls Try.prog 25 #[.string (str blk)] w fun r w' => Below w.heap.size w w' ∧ ((ofB blk = none ∧ r = .returned (.tuple #[.slice none 0 0, .bool false])) ∨ (∃ l v', ofB blk = some l ∧ r = .returned (.tuple #[v', .bool true]) ∧ Rd w' 3 v' l.length (ls l))) := by
  have hsb := str_size blk
  obtain ⟨n, hn⟩ : ∃ n, n = bt blk 0 := ⟨_, rfl⟩
  have hn256 := bt_lt blk 0
  rw [← hn] at hn256
  have hx0 := getD_at blk 0 (by omega)
  obtain ⟨n8, hn8⟩ : ∃ x, x = blk.getD 0 0 := ⟨_, rfl⟩
  have hnn : n8.toNat = n := by rw [hn8, hn]; rfl
  rw [← hn8] at hx0
  have Htl := Lib.hid (show blk.tail.length = 255 by rw [List.length_tail, h256])
  have Htail := Lib.hid (show blk.tail = blk.drop 1 by rw [List.drop_one])
  have Hnone := Lib.hid (show ∀ k, k ≤ n → stp blk.tail k = none → ofB blk = none from fun k hk h => by rw [ofB, ← hn, stp_none h hk])
  have Hof := Lib.hid (show ∀ l r, stp blk.tail n = some (l, r) → ofB blk = if okPut l && (block l == blk) then some l else none from fun l r h => by rw [ofB, ← hn, h])
  clear hn8 hn
  have h0 : 0 < blk.length := by omega
  have h0' : (0 : Int) < (blk.length : Int) := by omega
  go_enter Try.func25, Try.ntmps25
  go_wp2_with fail
  go_loopw [4, 5, 6] (fun lv at_ i wr => ∃ (k p : Nat) (lk : List L), k ≤ n ∧ 1 ≤ p ∧ p ≤ 256 ∧ at_ = .int .i64 (p : Int) ∧ i = .int .i64 ((n : Int) - (k : Int)) ∧ Hid (stp blk.tail k = some (lk, blk.drop p)) ∧ Hid (wr.ownsRow w.heap.size 87 3 lv k (ls lk)) ∧ Below w.heap.size w wr) (fun _ _ i _ => (intOf i).toNat)
  case atStart => exact ⟨0, 1, [], Nat.zero_le _, by omega, by omega, rfl, by simp, Lib.hid (by rw [stp, Htail.out]), Lib.hid (own_nil _ _ _ _), Below.refl _ _⟩
  case round =>
    clear hx0 hnn n8
    obtain ⟨k, p, lk, hkn, hp1, hp2, rfl, rfl, Hst, Ho, hB⟩ := hrel
    by_cases hkl : k < n
    rotate_left
    · obtain rfl : k = n := by omega
      have hlk := stp_len Hst.out
      have hft := stp_fit Hst.out
      have hd1 : decide ((0 : Int) < (k : Int) - (k : Int)) = false := decide_eq_false (by omega)
      have hof := Hof.out lk _ Hst.out
      have hol := Ho.out
      have hln := hlk.1
      rw [← hln] at hol
      have hpl : (put lk).length ≤ 256 := by
        have h1 := hlk.2.1
        rw [Htl.out] at h1
        simp only [put, List.length_cons]; omega
      have hkm : ∀ e ∈ lk, e.key.length ≤ 1000000 := fun e he => by
        obtain ⟨j, hj, rfl⟩ := List.mem_iff_getElem.1 he
        have := (hft j hj).1
        rw [List.getD_eq_getElem?_getD, List.getElem?_eq_getElem hj] at this
        exact Nat.le_trans this (by decide)
      have Hby := Lib.hid (Bytes_any lk u4 wr (Rd.of_own hol) (by omega) hft (by omega))
      have Hri := Lib.hid (fun W (h : Below wr.heap.size wr W) => rRight_any lk u4 W ((Rd.of_own hol).below h) (by omega) hkm)
      have Hbk := Lib.hid (show block lk = put lk ++ List.replicate (256 - (put lk).length) 0 from rfl)
      have Hok := Lib.hid (show 0 < k → okPut lk = right lk from fun h => by
        have : lk.isEmpty = false := by cases lk with
          | nil => simp at hln; omega
          | cons e l => rfl
        rw [okPut, this]; rfl)
      have Hok0 := Lib.hid (show k = 0 → okPut lk = false from fun h => by
        have : lk = [] := List.length_eq_zero_iff.1 (by omega)
        rw [this]; rfl)
      have Hof2 := Lib.hid hof
      have Hol := Lib.hid hol
      have Hln := Lib.hid (show k = lk.length from hln.symm)
      obtain ⟨P, hP⟩ : ∃ P, P = put lk := ⟨_, rfl⟩
      rw [← hP] at hpl Hby Hbk
      obtain ⟨A4, c4, rfl, hq1, hq2, -⟩ := (Rd.of_own hol).slice_
      rw [hln] at Hol Hby Hri hq1 ⊢
      clear hlk hft hof hol hkm Hst Ho Hof Hnone hln hP
      unfold maxLen at hq2
      go_wp2_with (go_at_call 22; refine Hby.out.mono ?_; rintro r w2 ⟨rfl, hb2⟩)
      have Hb2 := Lib.hid hb2
      clear hb2
      go_loopw [9] (fun s wr2 => ∃ (S8 : List UInt8) (j : Nat), s = .string (str S8) ∧ Hid (S8 = P ++ List.replicate j 0) ∧ S8.length = P.length + j ∧ P.length + j ≤ 256 ∧ Below wr.heap.size wr wr2) (fun s _ => 256 - strLen s)
      case atStart => exact ⟨P, 0, rfl, Lib.hid (by simp), by omega, by omega, Hb2.out⟩
      case round =>
        clear Hb2
        obtain ⟨S8, j, rfl, HS, hS, hj, hb2⟩ := hrel
        have hss := str_size S8
        by_cases hlt : S8.length < 256
        · have hd4 : decide ((S8.length : Int) < 256) = true := decide_eq_true (by omega)
          go_wp2_with fail
          have ea : str S8 ++ ⟨#[0]⟩ = str (S8 ++ [0]) := by rw [← str_append]; rfl
          rw [ea]
          refine ⟨⟨S8 ++ [0], j + 1, rfl, Lib.hid ?_, by rw [List.length_append, hS]; simp only [List.length_cons, List.length_nil]; omega, by omega, hb2⟩, ?_⟩
          · rw [HS.out, List.replicate_succ', List.append_assoc]
          · simp only [strLen, str_size, List.length_append, List.length_cons, List.length_nil]; omega
        · have hd4 : decide ((S8.length : Int) < 256) = false := decide_eq_false (by omega)
          have HS2 := Lib.hid (show S8 = block lk by rw [HS.out, Hbk.out]; congr 2; omega)
          have hB2 := below_go hb2 hB
          rcases Nat.eq_zero_or_pos k with hk0 | hk0
          · have Hz := Lib.hid (show ofB blk = none by rw [Hof2.out, Hok0.out hk0]; rfl)
            have hkz : ((k : Int) == 0) = true := by rw [beq_iff_eq]; omega
            go_wp2_with fail
            go_ret2
            exact ⟨hB2, .inl ⟨Hz.out, rfl⟩⟩
          have hkz : ((k : Int) == 0) = false := by rw [beq_eq_false_iff_ne]; omega
          have Hri2 := Lib.hid (Hri.out wr hb2)
          have hok := Hok.out hk0
          cases hr : right lk with
          | false =>
            have Hz := Lib.hid (show ofB blk = none by rw [Hof2.out, hok, hr]; rfl)
            rw [hr] at Hri2
            go_wp2_with (go_at_call 17; refine Hri2.out.mono ?_; rintro r w3 ⟨rfl, hb3⟩)
            go_ret2
            exact ⟨below_go hb3 hB2, .inl ⟨Hz.out, rfl⟩⟩
          | true =>
            rw [hr] at Hri2
            have hof3 := Hof2.out
            rw [hok, hr, Bool.true_and, ← HS2.out] at hof3
            have Hof3 := Lib.hid hof3
            clear hof3
            cases heq : (S8 == blk) with
            | true =>
              have Hz := Lib.hid (show ofB blk = some lk by rw [Hof3.out, heq]; rfl)
              have hne : (S8 != blk) = false := by rw [bne, heq]; rfl
              go_wp2_with (go_at_call 17; refine Hri2.out.mono ?_; rintro r w3 ⟨rfl, hb3⟩)
              go_ret2
              have hr4 := (Rd.of_own Hol.out).below (below_go hb3 hb2)
              exact ⟨below_go hb3 hB2, .inr ⟨lk, _, Hz.out, rfl, by rw [← Hln.out]; exact hr4⟩⟩
            | false =>
              have Hz := Lib.hid (show ofB blk = none by rw [Hof3.out, heq]; rfl)
              have hne : (S8 != blk) = true := by rw [bne, heq]; rfl
              go_wp2_with (go_at_call 17; refine Hri2.out.mono ?_; rintro r w3 ⟨rfl, hb3⟩)
              go_ret2
              exact ⟨below_go hb3 hB2, .inl ⟨Hz.out, rfl⟩⟩
    have hd1 : decide ((0 : Int) < (n : Int) - (k : Int)) = true := decide_eq_true (by omega)
    have hlen : (blk.drop p).length = 256 - p := by rw [List.length_drop, h256]
    by_cases hp : p < 256
    rotate_left
    · have hd2 : decide ((256 : Int) ≤ (p : Int)) = true := decide_eq_true (by omega)
      have Hz := Lib.hid (Hnone.out (k + 1) (by omega) (stp_stop Hst.out (by rw [room, hlen, decide_eq_false (by omega)]; rfl)))
      go_wp2_with fail
      go_ret2
      exact ⟨hB, .inl ⟨Hz.out, rfl⟩⟩
    have hd2 : decide ((256 : Int) ≤ (p : Int)) = false := decide_eq_false (by omega)
    have hxa := getD_at blk p (by omega)
    have hx256 := bt_lt (blk.drop p) 0
    have Hbt := Lib.hid (bt_drop blk p)
    have hxe : (blk.getD p 0).toNat = bt (blk.drop p) 0 := by rw [Hbt.out]; rfl
    have Hkeyr := Lib.hid (show room (blk.drop p) = (decide (5 ≤ 256 - p) && decide (5 + bt (blk.drop p) 0 ≤ 256 - p)) by rw [room, hlen])
    have Hent := Lib.hid (show entOf (blk.drop p) = ⟨((blk.drop p).drop 1).take (bt (blk.drop p) 0), ((256 * bt (blk.drop p) (bt (blk.drop p) 0 + 1) + bt (blk.drop p) (bt (blk.drop p) 0 + 2) : Nat) : Int), ((256 * bt (blk.drop p) (bt (blk.drop p) 0 + 3) + bt (blk.drop p) (bt (blk.drop p) 0 + 4) : Nat) : Int)⟩ from rfl)
    have Hss := Lib.hid (fun h => stp_succ (b := blk.tail) (l := lk) (r := blk.drop p) (k := k) Hst.out h)
    obtain ⟨x, hxx⟩ : ∃ x, x = bt (blk.drop p) 0 := ⟨_, rfl⟩
    rw [← hxx] at hx256 hxe Hkeyr Hent Hss
    generalize blk.getD p 0 = x8 at hxa hxe
    have hpl : p < blk.length := by omega
    have hpl2 : (p : Int) < (blk.length : Int) := by omega
    have hp0 : (0 : Int) ≤ (p : Int) := by omega
    clear hxx hlen
    by_cases h6 : 5 + x ≤ 256 - p
    rotate_left
    · have hd3 : decide ((256 : Int) < (p : Int) + 5 + (x : Int)) = true := decide_eq_true (by omega)
      have Hz := Lib.hid (Hnone.out (k + 1) (by omega) (stp_stop Hst.out (by rw [Hkeyr.out, decide_eq_false h6]; simp)))
      go_wp2_with fail
      go_ret2
      exact ⟨hB, .inl ⟨Hz.out, rfl⟩⟩
    have hd3 : decide ((256 : Int) < (p : Int) + 5 + (x : Int)) = false := decide_eq_false (by omega)
    have Hroom := Lib.hid (show room (blk.drop p) = true by rw [Hkeyr.out, decide_eq_true h6, decide_eq_true (by omega)]; rfl)
    go_upto_region 10 with fail
    rw [str_drop blk (p + 1 + x) 256 (by omega)]
    obtain ⟨ws, hws⟩ : ∃ ws, ws = blk.drop (p + 1 + x) := ⟨_, rfl⟩
    rw [← hws]
    have hwl : 4 ≤ ws.length := by rw [hws, List.length_drop]; omega
    have hwb : ∀ i, (ws.getD i 0).toNat = bt (blk.drop p) (x + 1 + i) := fun i => by rw [Hbt.out, hws]; show bt (blk.drop (p + 1 + x)) i = _; rw [bt_drop]; congr 1; omega
    have hw0 := getD_at ws 0 (by omega)
    have hw1 := getD_at ws 1 (by omega)
    have hw2 := getD_at ws 2 (by omega)
    have hw3 := getD_at ws 3 (by omega)
    have hb0 := hwb 0
    have hb1 := hwb 1
    have hb2 := hwb 2
    have hb3 := hwb 3
    have z1 := bt_lt (blk.drop p) (x + 1)
    have z2 := bt_lt (blk.drop p) (x + 2)
    have z3 := bt_lt (blk.drop p) (x + 3)
    have z4 := bt_lt (blk.drop p) (x + 4)
    rw [Nat.add_zero] at hb0
    rw [Nat.add_assoc] at hb1 hb2 hb3
    generalize ws.getD 0 0 = a0 at hw0 hb0
    generalize ws.getD 1 0 = a1 at hw1 hb1
    generalize ws.getD 2 0 = a2 at hw2 hb2
    generalize ws.getD 3 0 = a3 at hw3 hb3
    generalize bt (blk.drop p) (x + 1) = y1 at hb0 z1 Hent
    generalize bt (blk.drop p) (x + 2) = y2 at hb1 z2 Hent
    generalize bt (blk.drop p) (x + 3) = y3 at hb2 z3 Hent
    generalize bt (blk.drop p) (x + 4) = y4 at hb3 z4 Hent
    have i0 : 0 < ws.length := by omega
    have i1 : 1 < ws.length := by omega
    have i2 : 2 < ws.length := by omega
    have i3 : 3 < ws.length := by omega
    have j0 : (0 : Int) < (ws.length : Int) := by omega
    have j1 : (1 : Int) < (ws.length : Int) := by omega
    have j2 : (2 : Int) < (ws.length : Int) := by omega
    have j3 : (3 : Int) < (ws.length : Int) := by omega
    have hsw := str_size ws
    obtain ⟨key, hkey⟩ : ∃ key, key = ((blk.drop p).drop 1).take x := ⟨_, rfl⟩
    rw [← hkey] at Hent
    have hks := str_sub blk (p + 1) x
    rw [← List.drop_drop, ← hkey] at hks
    have s1 : (0 : Int) ≤ (p : Int) + 1 := by omega
    have s2 : (p : Int) + 1 ≤ (p : Int) + 1 + (x : Int) := by omega
    have s3 : (p : Int) + 1 + (x : Int) ≤ 256 := by omega
    have s4 : p + 1 ≤ p + 1 + x := by omega
    have s5 : p + 1 + x ≤ 256 := by omega
    have v1 : IntKind.i64.wrap ((p : Int) + 1) = (p : Int) + 1 := by rw [IntKind.wrap_i64]; omega
    have v2 : IntKind.i64.wrap ((p : Int) + 1 + (x : Int)) = (p : Int) + 1 + (x : Int) := by rw [IntKind.wrap_i64]; omega
    have vt : ((p : Int) + 1 + (x : Int)).toNat = p + 1 + x := by omega
    have v3 : IntKind.i64.wrap (256 * (y1 : Int)) = 256 * (y1 : Int) := by rw [IntKind.wrap_i64]; omega
    have v4 : IntKind.i64.wrap (256 * (y3 : Int)) = 256 * (y3 : Int) := by rw [IntKind.wrap_i64]; omega
    have v5 : IntKind.i64.wrap (256 * (y1 : Int) + (y2 : Int)) = 256 * (y1 : Int) + (y2 : Int) := by rw [IntKind.wrap_i64]; omega
    have v6 : IntKind.i64.wrap (256 * (y3 : Int) + (y4 : Int)) = 256 * (y3 : Int) + (y4 : Int) := by rw [IntKind.wrap_i64]; omega
    have v7 : IntKind.i64.wrap (y1 : Int) = (y1 : Int) := by rw [IntKind.wrap_i64]; omega
    have v8 : IntKind.i64.wrap (y2 : Int) = (y2 : Int) := by rw [IntKind.wrap_i64]; omega
    have v9 : IntKind.i64.wrap (y3 : Int) = (y3 : Int) := by rw [IntKind.wrap_i64]; omega
    have v10 : IntKind.i64.wrap (y4 : Int) = (y4 : Int) := by rw [IntKind.wrap_i64]; omega
    clear hws hwb hkey
    (refine Ord.wp_region_ord [(false, 0), (false, 1), (false, 2), (false, 3), (false, 4), (false, 5), (false, 6), (false, 7), (false, 8), (false, 9), (false, 10), (false, 11), (false, 12), (false, 13), (false, 14), (false, 15), (false, 16), (false, 17), (false, 18), (false, 19), (false, 20), (false, 21), (false, 22), (false, 23), (false, 24), (false, 25), (true, 26), (true, 27), (false, 28)] (fun W => True) (by kernel_rfl) (by kernel_rfl) (by kernel_rfl) (by kernel_rfl) (by trivial) ?_; simp only [Ord.ordOps, List.filterMap_cons, List.filterMap_nil, List.getElem?_toArray, List.getElem?_cons_succ, List.getElem?_cons_zero, Option.map_some]; repeat (first | (refine Ord.wpOrd_skip ?_ ?_; (focus (go_simp; (try (intro h; cases h)); done)); simp only [Act.put, List.setIfInBounds_toArray, List.set_cons_zero, List.set_cons_succ]) | (refine Ord.wpOrd_take (v := ?_) ?_ ?_ ?_; rotate_left; (focus (go_simp; done)); (focus (intro w' hSw; (try dsimp only at hSw); go_simp; (try with_reducible rfl); done)); simp only [Act.put, List.setIfInBounds_toArray, List.set_cons_zero, List.set_cons_succ])))
    (refine Ord.wpOrd_call ?_ (fun K hK => ?_); (focus (go_simp; done)); go_simp)
    have hBd : Below wr.heap.size wr (wr.alloc (.cells #[.string (str key), .int .i64 (256 * (y1 : Int) + (y2 : Int)), .int .i64 (256 * (y3 : Int) + (y4 : Int))] 87)).drew := (below_one _ _).drew
    have hB1 := below_go hBd hB
    (refine hK _ _ (by trivial) ?_; clear hK K; (try simp only [Act.put, List.setIfInBounds_toArray, List.set_cons_zero, List.set_cons_succ]); repeat (first | (refine Ord.wpOrd_skip ?_ ?_; (focus (go_simp; (try (intro h; cases h)); done)); simp only [Act.put, List.setIfInBounds_toArray, List.set_cons_zero, List.set_cons_succ]) | (refine Ord.wpOrd_take (v := ?_) ?_ ?_ ?_; rotate_left; (focus (go_simp; done)); (focus (intro w' hSw; (try dsimp only at hSw); go_simp; (try with_reducible rfl); done)); simp only [Act.put, List.setIfInBounds_toArray, List.set_cons_zero, List.set_cons_succ])))
    have Hent2 := Lib.hid (show entOf (blk.drop p) = ⟨key, 256 * (y1 : Int) + (y2 : Int), 256 * (y3 : Int) + (y4 : Int)⟩ by rw [Hent.out]; simp only [Int.natCast_add, Int.natCast_mul, Int.cast_ofNat_Int])
    have hRl := Rd.lit wr 3 1 (ls [⟨key, (256 * (y1 : Int) + (y2 : Int)), (256 * (y3 : Int) + (y4 : Int))⟩]) 87 rfl (by simp [maxLen])
    refine Ord.wpOrd_app_row elRef ?_ (.tmp 39) (.tmp 65) rfl w.heap.size u4 _ k 1 (ls lk) (ls [⟨key, (256 * (y1 : Int) + (y2 : Int)), (256 * (y3 : Int) + (y4 : Int))⟩]) rfl rfl (ls_one _) (own_below Ho.out hBd) hRl hB1.size (by omega) (fun v1 w1 ho1 hg1 hat1 => ?_)
    · go_simp
    have hB2 := hB1.grown hg1 hB1.size (own_base Ho.out)
    rw [← ls_append, ← Hent2.out] at ho1
    refine ⟨trivial, ?_⟩
    have Ho1 := Lib.hid ho1
    clear ho1 hg1 hat1 hRl hBd hB1 Ho hB
    ((try simp only [Act.put, List.setIfInBounds_toArray, List.set_cons_zero, List.set_cons_succ]); repeat (first | (refine Ord.wpOrd_skip ?_ ?_; (focus (go_simp; (try (intro h; cases h)); done)); simp only [Act.put, List.setIfInBounds_toArray, List.set_cons_zero, List.set_cons_succ]) | (refine Ord.wpOrd_take (v := ?_) ?_ ?_ ?_; rotate_left; (focus (go_simp; done)); (focus (intro w' hSw; (try dsimp only at hSw); go_simp; (try with_reducible rfl); done)); simp only [Act.put, List.setIfInBounds_toArray, List.set_cons_zero, List.set_cons_succ])))
    refine Ord.wpOrd_nil ?_
    go_wp2_with fail
    have e5 : p + (x + 5) = p + 5 + x := by omega
    have Hs2 := Lib.hid (Hss.out Hroom.out)
    refine ⟨⟨k + 1, p + 5 + x, lk ++ [entOf (blk.drop p)], by omega, by omega, by omega, by go_num, by go_num, Lib.hid (by rw [Hs2.out, List.drop_drop, e5]), Ho1, hB2⟩, by simp only [intOf]; omega⟩
end Go.Proofs.Ytcjabfdjngekfaa.Leaf
