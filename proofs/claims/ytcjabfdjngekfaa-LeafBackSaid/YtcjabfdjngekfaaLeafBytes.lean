/- The law LeafBytes, walked. -/
import Derived.Test.YtcjabfdjngekfaaLeafW7
import Derived.Test.YtcjabfdjngekfaaLeafW8
set_option linter.unusedVariables false
set_option linter.unusedSimpArgs false
namespace Go.Proofs.Ytcjabfdjngekfaa.Leaf
open Go.RowKit Go.Proofs.Ytcjabfdjngekfaa.Wd Go.Proofs.Ytcjabfdjngekfaa.Use Go.Proofs.Ytcjabfdjngekfaa.Lay
open Go.Proofs.Ytcjabfdjngekfaa.Rel (env_cells)

theorem ofB_len {b : List UInt8} {l : List L} (h : ofB b = some l) : l.length ≤ 255 := by
  unfold ofB at h
  cases h1 : stp b.tail (bt b 0) with
  | none => rw [h1] at h; cases h
  | some p =>
    obtain ⟨l0, r0⟩ := p
    rw [h1] at h
    simp only at h
    split at h
    · injection h with h
      have := (stp_len h1).1
      have := bt_lt b 0
      rw [← h]; omega
    · cases h
theorem and16 (n : Int) : ∃ m : Nat, m < 65536 ∧ bits .and .i64 n 65535 = (m : Int) := by
  have h1 : (BitVec.ofInt 64 n &&& BitVec.ofInt 64 65535).toNat ≤ 65535 := by
    rw [BitVec.toNat_and]
    exact Nat.le_trans Nat.and_le_right (by decide)
  refine ⟨(BitVec.ofInt 64 n &&& BitVec.ofInt 64 65535).toNat, by omega, ?_⟩
  show IntKind.i64.wrap ((BitVec.ofInt 64 n &&& BitVec.ofInt 64 65535).toNat : Int) = _
  rw [IntKind.wrap_i64]; omega
theorem Blocks_any (m : Nat) (w : World) (h : m < 65536) : Calls Try.prog 27 #[.int .i64 (m : Int)] w fun r w' => r = .returned (.int .i64 (((m : Int) + 255) / 256)) ∧ w' = w := by
  rcases Nat.eq_zero_or_pos m with h0 | h0
  · subst h0
    exact Blocks_none 0 w (by decide)
  · have h1 := Blocks_some (m : Int) w (by omega) (by omega)
    rw [show ((m : Int) - 1) / 256 + 1 = ((m : Int) + 255) / 256 by omega] at h1
    exact h1
def L1 : List L := [⟨[97], 2, 258⟩]
theorem ls_L1 : ls L1 = [.string ⟨#[97]⟩, .int .i64 2, .int .i64 258] := rfl
set_option maxRecDepth 100000 in
set_option maxHeartbeats 4000000 in
theorem one_any (w : World) : Calls Try.prog 24 #[] w fun r w' => r = .returned (.bool true) ∧ Below w.heap.size w w' := by
  obtain ⟨W1, hW1⟩ : ∃ W, W = w.alloc (.cells #[.string ⟨#[97]⟩, .int .i64 2, .int .i64 258] 77) := ⟨_, rfl⟩
  have hB1 : Below w.heap.size w W1 := by rw [hW1]; exact below_one _ _
  have hR1 : Rd W1 3 (.slice (some ⟨w.heap.size, 0, none⟩) 1 1) 1 (ls L1) := by rw [hW1]; exact Rd.lit w 3 1 (ls L1) 77 rfl (by simp [maxLen])
  have hk : ∀ e ∈ L1, e.key.length ≤ 1000000 := by intro e he; simp [L1] at he; subst he; decide
  have Hp := Lib.hid ((Put_any L1 _ W1 hR1 (by decide) hk).mono (R' := fun r w' => ∃ b, r = .returned (.tuple #[b, .int .i64 0]) ∧ Rd w' 1 b 256 (bs (block L1)) ∧ Below W1.heap.size W1 w') (by
    rintro r w' ⟨h1, ⟨h2, -⟩ | ⟨-, b, h2, h3⟩⟩
    · have : okPut L1 = true := by decide
      rw [this] at h2; cases h2
    · exact ⟨b, h2, h3, h1⟩))
  have Hs := Lib.hid (fun W (h : Below W1.heap.size W1 W) => Size_any L1 _ W (hR1.below h) (by decide) hk)
  have Hb := Lib.hid (fun W => Blocks_some 257 W (by decide) (by decide))
  have Ht := Lib.hid (show (block L1).take 8 = [1, 1, 97, 0, 2, 1, 2, 0] by decide)
  have HW1 := Lib.hid hW1
  clear hk hR1 hW1
  go_enter Try.func24, Try.ntmps24
  go_upto_region 2 with fail
  rw [← HW1.out]
  go_upto_region 3 with (go_at_call 18; refine Hp.out.mono ?_; rintro r w2 ⟨b, rfl, hrb, hb2⟩)
  obtain ⟨A, c, rfl, hc1, hc2, -⟩ := hrb.slice_
  unfold maxLen at hc2
  have Hc := Lib.hid (fun W (h : Below w2.heap.size w2 W) => by
    have h8 := Rd_take (hrb.below h) 8 (by omega)
    have e : (bs (block L1)).take (8 * 1) = bs [1, 1, 97, 0, 2, 1, 2, 0] := by rw [← Ht.out]; simp [bs, List.map_take]
    rw [e] at h8
    exact conv_rd _ h8)
  clear hrb
  have hcv := Hc.out w2 (Below.refl _ _)
  go_wp2_with (first
    | (go_at_call 20; refine (Hs.out _ hb2).mono ?_; rintro r w3 ⟨rfl, hb3⟩; have hb3' := below_go hb3 hb2)
    | (go_at_call 27; refine (Hb.out _).mono ?_; rintro r w4 ⟨rfl, rfl⟩))
  go_ret
  exact ⟨rfl, below_go hb3' hB1⟩
set_option maxRecDepth 100000 in
set_option maxHeartbeats 8000000 in
theorem LeafBytes_any (v : Value) (l : List L) (vb : Value) (blk : List UInt8) (n : Int) (w : World) (hv : Rd w 3 v l.length (ls l)) (hk : ∀ e ∈ l, e.key.length ≤ maxLen) (hb : Rd w 1 vb blk.length (bs blk)) (hn : I64 n) :
    Calls Try.prog 3 #[v, vb, .int .i64 n] w fun r w' => r = .returned (.bool true) ∧ Below w.heap.size w w' := by
  have Hfair := Lib.hid (fair_any l v w hv hk)
  obtain ⟨A, c, rfl, hc1, hc2, -⟩ := hv.slice_
  obtain ⟨B, d, rfl, hd1, hd2, -⟩ := hb.slice_
  unfold maxLen at hc2 hd2
  have Hv := Lib.hid hv
  have Hb := Lib.hid hb
  clear hv hb hk
  go_enter Try.func3, Try.ntmps3
  by_cases h400 : blk.length ≤ 400
  rotate_left
  · have hd : decide ((400 : Int) < (blk.length : Int)) = true := decide_eq_true (by omega)
    go_wp2_with (go_at_call 15; refine Hfair.out.mono ?_; rintro r w2 ⟨f, rfl, -, hb2⟩; cases f)
    all_goals (go_ret; exact ⟨rfl, hb2⟩)
  have hd : decide ((400 : Int) < (blk.length : Int)) = false := decide_eq_false (by omega)
  go_upto_region 3 with (go_at_call 15; refine Hfair.out.mono ?_; rintro r w2 ⟨f, rfl, hf, hb2⟩; cases f)
  · go_ret
    exact ⟨rfl, hb2⟩
  obtain ⟨h60, h200⟩ := hf trivial
  have hkm : ∀ e ∈ l, e.key.length ≤ 1000000 := fun e he => by
    obtain ⟨j, hj, rfl⟩ := List.mem_iff_getElem.1 he
    have := h200 j hj
    rw [List.getD_eq_getElem?_getD, List.getElem?_eq_getElem hj] at this
    exact Nat.le_trans this (by decide)
  have hln : l.length ≤ 1000000 := by omega
  have Hown := Lib.hid (fun W (h : Below w.heap.size w W) => Own_any l _ W (Hv.out.below h) hln)
  have HrR := Lib.hid (fun v7 W (h : Rd W 3 v7 l.length (ls l)) => rRight_any l v7 W h hln hkm)
  have HrS := Lib.hid (fun v7 W (h : Rd W 3 v7 l.length (ls l)) => rSize_any l v7 W h hln hkm)
  have HlR := Lib.hid (fun W (h : Below w.heap.size w W) => Right_any l _ W (Hv.out.below h) hln hkm)
  have HlS := Lib.hid (fun W (h : Below w.heap.size w W) => Size_any l _ W (Hv.out.below h) hln hkm)
  have Hput := Lib.hid (fun W (h : Below w.heap.size w W) => (Put_any l _ W (Hv.out.below h) hln hkm).mono (R' := fun r w' => ∃ A9 m9 c9 er, r = .returned (.tuple #[.slice A9 m9 c9, .int .i64 er]) ∧ Hid ((okPut l = true → m9 = 256 ∧ er = 0 ∧ 256 ≤ c9 ∧ c9 ≤ 9223372036854775807 ∧ Rd w' 1 (.slice A9 m9 c9) 256 (bs (block l))) ∧ (okPut l = false → m9 = 0 ∧ er = 2)) ∧ Below W.heap.size W w') (by
    rintro r w' ⟨h1, ⟨h2, rfl⟩ | ⟨h2, b, rfl, h3⟩⟩
    · exact ⟨_, _, _, _, rfl, Lib.hid ⟨fun h => (by rw [h2] at h; cases h), fun _ => ⟨rfl, rfl⟩⟩, h1⟩
    · obtain ⟨A9, c9, rfl, g1, g2, -⟩ := h3.slice_
      unfold maxLen at g2
      exact ⟨_, _, _, _, rfl, Lib.hid ⟨fun _ => ⟨rfl, rfl, g1, by omega, h3⟩, fun h => (by rw [h2] at h; cases h)⟩, h1⟩))
  have Hfit := Lib.hid (show right l = true → ∀ k, k < l.length → (l.getD k L.zero).key.length ≤ 1000 ∧ Fit (l.getD k L.zero) from fun hr k hk => by
    have h := right_key hr hk
    simp only [L.right, Bool.and_eq_true, decide_eq_true_eq] at h
    refine ⟨by omega, ?_⟩
    unfold Fit; omega)
  have Hple := Lib.hid (fun hr => right_le (l := l) hr)
  have Hbln := Lib.hid (fun hr => block_length l hr)
  have Hbdf := Lib.hid (show block l = put l ++ List.replicate (256 - (put l).length) 0 from rfl)
  have Hbyt := Lib.hid (fun (hr : right l = true) v7 W (h : Rd W 3 v7 l.length (ls l)) => Bytes_any l v7 W h hln (Hfit.out hr) (Nat.le_trans (right_le hr) (by decide)))
  have Hokd := Lib.hid (show okPut l = (!l.isEmpty && right l) from rfl)
  have Hem := Lib.hid (show l.isEmpty = decide (l.length = 0) by cases l <;> simp)
  clear hkm h200 hf
  generalize right l = R at *
  generalize okPut l = ok at *
  generalize sizeTo l l.length = z at *
  go_upto_region 6 with (first
    | (go_at_call 16; refine (Hown.out _ hb2).mono ?_; rintro r w3 ⟨v7, rfl, ho3, hb3⟩; obtain ⟨A7, c7, rfl, -, -, -⟩ := (Rd.of_own ho3).slice_; have Hr7 := Lib.hid (Rd.of_own ho3); have hB3 := below_go hb3 hb2; clear ho3)
    | (go_at_call 17; refine (HrR.out _ _ Hr7.out).mono ?_; rintro r w4 ⟨rfl, hb4⟩; have Hr8 := Lib.hid (Hr7.out.below hb4); have hB4 := below_go hb4 hB3)
    | (go_at_call 18; refine (Hput.out _ hB4).mono ?_; rintro r w5 ⟨A9, m9, c9, er, rfl, Hp9, hb5⟩; have Hr9 := Lib.hid (Hr8.out.below hb5); have hB5 := below_go hb5 hB4))
  clear Hr7 Hr8 hb3 hb4 hb5 hB3 hB4 Hown HrR Hput Hfair
  go_cut [68] from 34 to 67 (fun s68 wx => s68 = .bool false ∧ Below w5.heap.size w5 wx)
  case first =>
    have hq1 := Hokd.out
    rw [Hem.out] at hq1
    cases ok with
    | false =>
      obtain ⟨rfl, rfl⟩ := Hp9.out.2 rfl
      cases R with
      | false =>
        clear hq1 Hbdf Hem Hfit Hple Hbln Hbyt Hokd
        go_upto_region 8 with (first
          | (go_at_call 19; refine (HlR.out _ hB5).mono ?_; rintro r w6 ⟨rfl, hb6⟩; have hB6 := below_go hb6 hB5)
          | (go_at_call 20; refine (HlS.out _ hB6).mono ?_; rintro r w7 ⟨rfl, hb7⟩; have hb7' := below_go hb7 hb6)
          | (go_at_call 21; refine (HrS.out _ _ (Hr9.out.below hb7')).mono ?_; rintro r w8 ⟨rfl, hb8⟩; have hb8' := below_go hb8 hb7'))
        go_meet
        exact ⟨rfl, hb8'⟩
      | true =>
        have hl0 : l.length = 0 := by
          rcases Nat.eq_zero_or_pos l.length with h | h
          · exact h
          · rw [decide_eq_false (by omega)] at hq1; cases hq1
        have hl1 : ¬ (0 < l.length) := by omega
        clear hl0 hq1 Hbdf Hem Hfit Hple Hbln Hbyt Hokd
        go_upto_region 8 with (first
          | (go_at_call 19; refine (HlR.out _ hB5).mono ?_; rintro r w6 ⟨rfl, hb6⟩; have hB6 := below_go hb6 hB5)
          | (go_at_call 20; refine (HlS.out _ hB6).mono ?_; rintro r w7 ⟨rfl, hb7⟩; have hb7' := below_go hb7 hb6)
          | (go_at_call 21; refine (HrS.out _ _ (Hr9.out.below hb7')).mono ?_; rintro r w8 ⟨rfl, hb8⟩; have hb8' := below_go hb8 hb7'))
        go_meet
        exact ⟨rfl, hb8'⟩
    | true =>
      obtain ⟨rfl, rfl, -, -, -⟩ := Hp9.out.1 rfl
      obtain rfl : R = true := by cases R with
        | true => rfl
        | false => simp at hq1
      have hl0 : 0 < l.length := by
        rcases Nat.eq_zero_or_pos l.length with h | h
        · rw [decide_eq_true h] at hq1; cases hq1
        · exact h
      clear hq1 Hbdf Hem Hfit Hple Hbln Hbyt Hokd
      go_upto_region 8 with (first
        | (go_at_call 19; refine (HlR.out _ hB5).mono ?_; rintro r w6 ⟨rfl, hb6⟩; have hB6 := below_go hb6 hB5)
        | (go_at_call 20; refine (HlS.out _ hB6).mono ?_; rintro r w7 ⟨rfl, hb7⟩; have hb7' := below_go hb7 hb6)
        | (go_at_call 21; refine (HrS.out _ _ (Hr9.out.below hb7')).mono ?_; rintro r w8 ⟨rfl, hb8⟩; have hb8' := below_go hb8 hb7'))
      go_meet
      exact ⟨rfl, hb8'⟩
  case rest =>
    obtain ⟨rfl, hb8⟩ := hcut
    go_upto_if 70 with fail
    go_cut [11, 12] from 71 to 95 (fun _ _ wx => Below w5.heap.size w5 wx)
    case first =>
      cases ok with
      | false =>
        obtain ⟨rfl, rfl⟩ := Hp9.out.2 rfl
        clear Hbdf Hem Hfit Hple Hbln Hbyt Hokd
        go_wp2_with fail
        go_meet
        exact hb8
      | true =>
        obtain ⟨rfl, rfl, g1, g2, hR9⟩ := Hp9.out.1 rfl
        obtain rfl : R = true := by
          have hq1 := Hokd.out
          cases R with
          | true => rfl
          | false => simp at hq1
        have hbl := Hbln.out rfl
        have hpl := Hple.out rfl
        have hbd := Hbdf.out
        have hbyt := Hbyt.out rfl
        obtain ⟨b9, o9, rfl, hcell⟩ := bytes_at hR9 hbl.symm (by omega)
        have hrt := Rd_take hR9 (put l).length hpl
        rw [Nat.mul_one] at hrt
        have hpt : (bs (block l)).take (put l).length = bs (put l) := by rw [hbd, bs_append, List.take_left' (bs_length _)]
        rw [hpt] at hrt
        have Hcv := Lib.hid (fun W (h : Below w5.heap.size w5 W) => conv_rd (put l) (hrt.below h))
        have Hz := Lib.hid (fun W (h : Below w5.heap.size w5 W) k (hk1 : (put l).length ≤ k) (hk2 : k < 256) => (show W.cell? ⟨b9, o9 + k, none⟩ = some (.int .u8 0) by
          have h1 := cell_below h (hcell k hk2)
          rw [hbd, List.getD_eq_getElem?_getD, List.getElem?_append_right hk1, List.getElem?_replicate, if_pos (by omega)] at h1
          exact h1))
        have Hbyt2 := Lib.hid hbyt
        have Hr10 := Lib.hid (Hr9.out.below hb8)
        clear hbl hbd hcell hrt hpt hR9 hbyt Hbyt Hfit Hple Hbln Hbdf Hokd Hem HlR HlS HrS Hp9
        generalize put l = P at hpl Hcv Hz Hbyt2
        have hsp := str_size P
        have hp1 : decide ((P.length : Int) ≤ 256) = true := decide_eq_true (by omega)
        go_upto_region 10 with (go_at_call 22; refine (Hbyt2.out _ _ Hr10.out).mono ?_; rintro r w9 ⟨rfl, hb9⟩; have hb9' := below_go hb9 hb8; have hcv := Hcv.out _ hb9')
        go_wp2_with fail
        go_loopw [12] (fun i wr => ∃ k : Nat, P.length ≤ k ∧ k ≤ 256 ∧ i = .int .i64 (k : Int) ∧ Below w5.heap.size w5 wr) (fun i _ => 256 - (intOf i).toNat)
        case atStart => exact ⟨P.length, by omega, hpl, rfl, hb9'⟩
        case round =>
          obtain ⟨k, hk1, hk2, rfl, hb10⟩ := hrel
          by_cases hk3 : k < 256
          · have hzk := Hz.out _ hb10 k hk1 hk3
            have hd5 : decide ((k : Int) < 256) = true := decide_eq_true (by omega)
            go_wp2_with fail
            exact ⟨⟨k + 1, by omega, by omega, by go_num, hb10⟩, by simp only [intOf]; omega⟩
          · have hd5 : decide ((k : Int) < 256) = false := decide_eq_false (by omega)
            go_wp2_with fail
            go_meet
            exact hb10
    case rest =>
      have hBx := below_go hcut hB5
      clear hcut hb8 Hp9 Hr9 HlR HlS HrS Hokd Hem Hbyt Hfit Hple Hbln Hbdf
      have Hone := Lib.hid (fun W => one_any W)
      have Hofx := Lib.hid (Of_any blk _ wc (Hb.out.below hBx))
      by_cases h256 : blk.length = 256
      rotate_left
      · have Hof := Lib.hid (Hofx.out.mono (R' := fun r w' => r = .returned (.tuple #[.slice none 0 0, .int .i64 2]) ∧ Below wc.heap.size wc w') (by
          rintro r w' ⟨h1, ⟨-, h2⟩ | ⟨h2, -⟩ | ⟨h2, -⟩⟩
          · exact ⟨h2, h1⟩
          · exact absurd h2 h256
          · exact absurd h2 h256))
        have hne : ((blk.length : Int) != 256) = true := by rw [bne_iff_ne]; omega
        clear Hofx h256
        go_wp2_with (first
          | (go_at_call 23; refine Hof.out.mono ?_; rintro r w10 ⟨rfl, hb10⟩)
          | (go_at_call 24; refine (Hone.out _).mono ?_; rintro r w11 ⟨rfl, hb11⟩))
        go_ret
        exact ⟨rfl, below_go hb11 (below_go hb10 hBx)⟩
      have hne : ((blk.length : Int) != 256) = false := by rw [bne_eq_false_iff_eq]; omega
      obtain ⟨l', hl'⟩ : ∃ l', l' = (ofB blk).getD [] := ⟨_, rfl⟩
      obtain ⟨ok2, hok2⟩ : ∃ o, o = (ofB blk).isSome := ⟨_, rfl⟩
      have hlen' : l'.length ≤ 1000000 := by
        cases h : ofB blk with
        | none => rw [hl', h]; simp
        | some q => have := ofB_len h; rw [hl', h]; simp only [Option.getD_some]; omega
      have Hof := Lib.hid (Hofx.out.mono (R' := fun r w' => ∃ A3 c3 er3, r = .returned (.tuple #[.slice A3 l'.length c3, .int .i64 er3]) ∧ Hid (er3 = if ok2 then 0 else 11) ∧ Rd w' 3 (.slice A3 l'.length c3) l'.length (ls l') ∧ Below wc.heap.size wc w') (by
        rintro r w' ⟨h1, ⟨h2, -⟩ | ⟨-, h2, h3⟩ | ⟨-, l0, v', h2, h3, h4⟩⟩
        · exact absurd h256 h2
        · rw [h2] at hl' hok2
          subst hl' hok2
          exact ⟨_, _, _, h3, Lib.hid rfl, Rd.nil _ _, h1⟩
        · rw [h2] at hl' hok2
          simp only [Option.getD_some, Option.isSome_some] at hl' hok2
          subst hl' hok2
          obtain ⟨A3, c3, rfl, -, -, -⟩ := h4.slice_
          exact ⟨_, _, _, h3, Lib.hid rfl, h4, h1⟩))
      have Hrof := Lib.hid (fun W => (rOf_any blk W h256).mono (R' := fun r w' => ∃ A3 c3, r = .returned (.tuple #[.slice A3 l'.length c3, .bool ok2]) ∧ Rd w' 3 (.slice A3 l'.length c3) l'.length (ls l') ∧ Below W.heap.size W w') (by
        rintro r w' ⟨h1, ⟨h2, h3⟩ | ⟨l0, v', h2, h3, h4⟩⟩
        · rw [h2] at hl' hok2
          subst hl' hok2
          exact ⟨_, _, h3, Rd.nil _ _, h1⟩
        · rw [h2] at hl' hok2
          simp only [Option.getD_some, Option.isSome_some] at hl' hok2
          subst hl' hok2
          obtain ⟨A3, c3, rfl, -, -, -⟩ := h4.slice_
          exact ⟨_, _, h3, h4, h1⟩))
      have Hown2 := Lib.hid (fun v W (h : Rd W 3 v l'.length (ls l')) => Own_any l' v W h hlen')
      have Hsame := Lib.hid (fun v1 v2 W (h1 : Rd W 3 v1 l'.length (ls l')) (h2 : Rd W 3 v2 l'.length (ls l')) => Same_any l' v1 v2 W h1 h2)
      have Hcb := Lib.hid (fun W (h : Below w.heap.size w W) => conv_rd blk (Hb.out.below h))
      clear Hofx h256 hl' hok2
      go_upto_region 20 with (go_at_call 23; refine Hof.out.mono ?_; rintro r w10 ⟨A3, c3, er3, rfl, Her3, hr13, hb10⟩; have Hr13 := Lib.hid hr13; have hB10 := below_go hb10 hBx; have hcb := Hcb.out _ hB10; clear hr13)
      go_upto_region 22 with (go_at_call 25; refine (Hrof.out _).mono ?_; rintro r w11 ⟨A4, c4, rfl, hr15, hb11⟩; have Hr15 := Lib.hid hr15; have hB11 := below_go hb11 hB10; have Hr14 := Lib.hid (Hr13.out.below hb11); clear hr15)
      obtain ⟨m, hm, hmn⟩ := and16 n
      rw [hmn]
      have Hbl := Lib.hid (fun W => Blocks_any m W hm)
      have Hb0 := Lib.hid (fun W => Blocks_none (-1 - (m : Int)) W (by omega))
      have hq1 : ((m : Int) + 255).tdiv 256 = ((m : Int) + 255) / 256 := Int.tdiv_eq_ediv_of_nonneg (by omega)
      clear hmn Hof Hrof Hcb hcb Hr13
      cases ok2 with
      | true =>
        obtain rfl : er3 = 0 := Her3.out
        go_wp2_with (first
          | (go_at_call 16; refine (Hown2.out _ _ Hr14.out).mono ?_; rintro r w12 ⟨v12, rfl, ho12, hb12⟩; have Hr12 := Lib.hid (Rd.of_own ho12); have Hr16 := Lib.hid (Hr15.out.below hb12); have hB12 := below_go hb12 hB11; clear ho12)
          | (go_at_call 26; refine (Hsame.out _ _ _ Hr12.out Hr16.out).mono ?_; rintro r w13 ⟨rfl, hb13⟩; have hB13 := below_go hb13 hB12)
          | (go_at_call 27; refine (Hbl.out _).mono ?_; rintro r w14 ⟨rfl, rfl⟩)
          | (go_at_call 27; refine (Hb0.out _).mono ?_; rintro r w15 ⟨rfl, rfl⟩)
          | (go_at_call 24; refine (Hone.out _).mono ?_; rintro r w16 ⟨rfl, hb16⟩))
        go_ret
        exact ⟨rfl, below_go hb16 hB13⟩
      | false =>
        obtain rfl : er3 = 11 := Her3.out
        go_wp2_with (first
          | (go_at_call 16; refine (Hown2.out _ _ Hr14.out).mono ?_; rintro r w12 ⟨v12, rfl, ho12, hb12⟩; have Hr12 := Lib.hid (Rd.of_own ho12); have Hr16 := Lib.hid (Hr15.out.below hb12); have hB12 := below_go hb12 hB11; clear ho12)
          | (go_at_call 26; refine (Hsame.out _ _ _ Hr12.out Hr16.out).mono ?_; rintro r w13 ⟨rfl, hb13⟩; have hB13 := below_go hb13 hB12)
          | (go_at_call 27; refine (Hbl.out _).mono ?_; rintro r w14 ⟨rfl, rfl⟩)
          | (go_at_call 27; refine (Hb0.out _).mono ?_; rintro r w15 ⟨rfl, rfl⟩)
          | (go_at_call 24; refine (Hone.out _).mono ?_; rintro r w16 ⟨rfl, hb16⟩))
        go_ret
        exact ⟨rfl, below_go hb16 hB13⟩
end Go.Proofs.Ytcjabfdjngekfaa.Leaf
