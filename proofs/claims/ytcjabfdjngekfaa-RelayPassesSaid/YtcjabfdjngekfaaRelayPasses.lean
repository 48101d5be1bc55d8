/- RelayPasses' walk. -/
import Derived.Test.YtcjabfdjngekfaaRelPs
import Derived.Test.YtcjabfdjngekfaaOrdL
import Derived.Deep.CutRange
set_option linter.unusedVariables false
set_option linter.unusedSimpArgs false
namespace Go.Proofs.Ytcjabfdjngekfaa.Rel
open Go.RowKit Go.Proofs.Ytcjabfdjngekfaa.Wd Go.Proofs.Ytcjabfdjngekfaa.Use Go.Proofs.Ytcjabfdjngekfaa.Lay

theorem Rd_lt {w : World} {n : Nat} {v : Value} {xs : List Value} (h : Rd w 1 v n xs) (hn : 0 < n) : ∀ k, v.ownBlock = some k → k < w.heap.size := by
  obtain ⟨hl, A, c, rfl, h1, h2, h3⟩ := h
  obtain ⟨b, off, rfl, hc⟩ := h3 hn
  intro k hk
  have hb : b = k := by injection hk
  subst hb
  have := hc 0 (by omega)
  rw [List.getElem?_eq_getElem (by omega)] at this
  exact World.block_lt_of_cell? w _ this
theorem pass_zero (e : E) (x : Int) (h : (e.pass x).2 ≠ 0) : (e.pass x).1 = E.zero := by
  unfold E.pass at h ⊢
  split
  · rfl
  · split
    · rfl
    · split
      · rfl
      · rename_i h1 h2 h3; rw [if_neg h1, if_neg h2, if_neg h3] at h; exact absurd rfl h
theorem pass_good (e : E) (x : Int) (h : (e.pass x).2 = 0) : (e.pass x).1 = ⟨e.hops ++ [x], e.limit, e.inner⟩ ∧ E.right ⟨e.hops ++ [x], e.limit, e.inner⟩ = true ∧ (e.hops.length : Int) < e.limit := by
  unfold E.pass at h ⊢
  by_cases h1 : (!e.right || !peerB x) = true
  · rw [if_pos h1] at h; simp at h
  · by_cases h2 : e.hops.contains x = true
    · rw [if_neg h1, if_pos h2] at h; simp at h
    · by_cases h3 : (e.hops.length : Int) = e.limit
      · rw [if_neg h1, if_neg h2, if_pos h3] at h; simp at h
      · rw [if_neg h1, if_neg h2, if_neg h3]
        simp only [Bool.or_eq_true, Bool.not_eq_true', not_or, Bool.not_eq_false] at h1
        refine ⟨rfl, pass_right e x h1.1 h1.2 (by simpa using h2) h3, ?_⟩
        have := (right_facts h1.1).2.2.1
        omega
set_option maxRecDepth 100000 in
set_option maxHeartbeats 16000000 in
theorem RelayPasses_any (e : E) (hv vl : Value) (l : List Int) (w : World) (he : EIn w e hv) (hl : Rd w 1 vl l.length (is l)) (hI : ∀ x ∈ l, I64 x) :
    Calls Try.prog 7 #[.agg #[hv, .int .i64 e.limit, .string (str e.inner)], vl] w fun r w' => r = .returned (.bool true) ∧ Below w.heap.size w w' := by
  obtain ⟨A, c, rfl, hc1, hc2, -⟩ := he.hops.slice_
  obtain ⟨Al, cl, rfl, hl1, hl2, -⟩ := hl.slice_
  unfold maxLen at hc2 hl2
  obtain ⟨W0, hW0⟩ : ∃ W, W = w.alloc (.cells #[.slice A e.hops.length c, .int .i64 e.limit, .string (str e.inner)] 56) := ⟨_, rfl⟩
  have hg0 : W0.heap[w.heap.size]? = some (.cells #[.slice A e.hops.length c, .int .i64 e.limit, .string (str e.inner)] 56 (0, 0)) := by rw [hW0]; exact heap_alloc_new _ _
  have hB0 : Below w.heap.size w W0 := by rw [hW0]; exact below_one _ _
  have he0 : EIn W0 e (.slice A e.hops.length c) := he.below hB0
  have how := fun (hl : e.hops.length * 8 ≤ 140737488355328) => own_any e (.slice A e.hops.length c) W0 he0 hl
  have HW0 := Lib.hid hW0
  have Hg0 := Lib.hid hg0
  have How := Lib.hid how
  have Hl := Lib.hid hl
  have HI := Lib.hid hI
  have He := Lib.hid he
  have He0 := Lib.hid he0
  obtain ⟨k0, k1, k2⟩ := env_cells hg0
  obtain ⟨n, hn⟩ : ∃ x, x = e.hops.length := ⟨_, rfl⟩
  obtain ⟨il, hil⟩ : ∃ x, x = e.inner.length := ⟨_, rfl⟩
  obtain ⟨sn, hsn⟩ : ∃ x, x = str e.inner := ⟨_, rfl⟩
  obtain ⟨lm, hlm⟩ : ∃ x, x = e.limit := ⟨_, rfl⟩
  have hss : sn.size = il := by rw [hsn, hil, str_size]
  rw [← hn, ← hsn, ← hlm] at HW0 How ⊢
  rw [← hn] at k0
  rw [← hlm] at k1
  rw [← hsn] at k2
  rw [← hn] at hc1
  have Hn := Lib.hid hn
  have Hil := Lib.hid hil
  have Hsn := Lib.hid hsn
  have Hlm := Lib.hid hlm
  clear hW0 hg0 how hl hI he he0 hn hil hsn hlm
  by_cases h1 : n ≤ 40
  rotate_left
  · have hd1 : decide ((40 : Int) < (n : Int)) = true := decide_eq_true (by omega)
    go_enter Try.func7, Try.ntmps7
    go_upto_region 1 with fail
    rw [← HW0.out]
    go_wp2_with fail
    go_ret
    exact ⟨rfl, hB0⟩
  have hd1 : decide ((40 : Int) < (n : Int)) = false := decide_eq_false (by omega)
  by_cases h2 : il ≤ 500
  rotate_left
  · have hd2 : decide ((500 : Int) < (il : Int)) = true := decide_eq_true (by omega)
    go_enter Try.func7, Try.ntmps7
    go_upto_region 1 with fail
    rw [← HW0.out]
    go_wp2_with fail
    go_ret
    exact ⟨rfl, hB0⟩
  have hd2 : decide ((500 : Int) < (il : Int)) = false := decide_eq_false (by omega)
  go_enter Try.func7, Try.ntmps7
  go_upto_region 1 with fail
  rw [← HW0.out]
  go_upto_region 4 with (go_at_call 35; refine (How.out (by omega)).mono ?_; rintro r w2 ⟨v2, rfl, ho2, hB2⟩; obtain ⟨A2, c2, rfl, -, -, -⟩ := (Rd.of_own ho2).slice_; have Ho2 := Lib.hid ho2; clear ho2)
  have L0 : LS w (w2.alloc (.cells #[.slice A2 n c2, .int .i64 lm, .string sn] 57)) w2.heap.size e (.slice A n c) (.slice A2 n c2) := by
    have hz := hB2.size
    have hz0 := blk_lt Hg0.out
    have hB3 : Below W0.heap.size W0 (w2.alloc (.cells #[.slice A2 n c2, .int .i64 lm, .string sn] 57)) := hB2.alloc hB2.size _
    have ho := Ho2.out
    have hlt := fun (h : 0 < e.hops.length) => Rd_lt He.out.hops h
    have hbs := fun k hk => own_base ho k hk
    rw [Hsn.out, Hlm.out, Hn.out] at *
    refine ⟨blk_below Hg0.out hB3, heap_alloc_new _ _, He0.out.hops.below hB3, own_lower (own_alloc ho _) (by omega), fun e1 => ?_, fun h0 e1 => ?_, fun h0 e1 => ?_, fun h0 k hk e1 => ?_, by omega, below_go hB3 hB0, He0.out.limit, He0.out.hop, by rw [← Hil.out]; exact h2⟩
    · have := (ho.lt _ e1).2; omega
    · have := hlt h0 _ e1; omega
    · have := hlt h0 _ e1; omega
    · have := hlt h0 _ e1; have := hbs k hk; omega
  generalize w2.alloc (.cells #[.slice A2 n c2, .int .i64 lm, .string sn] 57) = w3 at L0 ⊢
  generalize w2.heap.size = g at L0 ⊢
  have HL0 := Lib.hid L0
  have Hn40 := Lib.hid (show e.hops.length ≤ 40 by rw [← Hn.out]; exact h1)
  clear L0 Ho2 hB2 k0 k1 k2 He He0 Hg0 How
  go_wp2_with fail
  go_loopw [6] (fun c wr => ∃ (i : Nat) (e' : E) (hv hv2 : Value), c = .int .i64 (i : Int) ∧ i ≤ l.length ∧ i ≤ 40 ∧ e'.hops.length ≤ 40 + i ∧ LS w wr g e' hv hv2) (fun c _ => 41 - (intOf c).toNat)
  case atStart => exact ⟨0, e, _, _, rfl, by omega, by omega, by have := Hn40.out; omega, HL0.out⟩
  case round =>
    clear HL0
    obtain ⟨i, e', hv, hv2, rfl, hi1, hi2, hi3, hL⟩ := hrel
    have HL := Lib.hid hL
    clear hL
    by_cases hil : i < l.length
    rotate_left
    · have hd3 : decide ((i : Int) < (l.length : Int)) = false := decide_eq_false (by omega)
      have hd4 : decide (i < l.length) = false := decide_eq_false hil
      go_wp2_with (go_at_call 45; refine (one_any _).mono ?_; rintro r w4 ⟨rfl, hb4⟩; have hB4 := below_go hb4 HL.out.b)
      go_ret
      exact ⟨rfl, hB4⟩
    by_cases hi40 : i < 40
    rotate_left
    · have hd3 : decide ((i : Int) < 40) = false := decide_eq_false (by omega)
      go_wp2_with (go_at_call 45; refine (one_any _).mono ?_; rintro r w4 ⟨rfl, hb4⟩; have hB4 := below_go hb4 HL.out.b)
      go_ret
      exact ⟨rfl, hB4⟩
    have hd3 : decide ((i : Int) < 40) = true := decide_eq_true (by omega)
    obtain ⟨bl, ol, hA, hcell⟩ := ints_at Hl.out rfl (by omega)
    obtain ⟨x, hx⟩ : ∃ x, x = l.getD i 0 := ⟨_, rfl⟩
    have hcw := hcell i hil
    rw [← hx] at hcw
    have hxI : I64 x := by
      have := HI.out (l[i]) (List.getElem_mem hil)
      rw [hx, List.getD_eq_getElem?_getD, List.getElem?_eq_getElem hil]; exact this
    subst hA
    have Hcx := Lib.hid (fun W (h : Below w.heap.size w W) => cell_below h hcw)
    clear hcw hcell hx
    obtain ⟨Ah, ch, rfl, hch1, hch2, -⟩ := HL.out.hr.slice_
    obtain ⟨A2, c2, rfl, hc21, hc22, -⟩ := (Rd.of_own HL.out.own).slice_
    unfold maxLen at hch2 hc22
    obtain ⟨r0, r1, r2⟩ := env_cells HL.out.rv
    go_wp2_with fail
    clear r0 r1 r2
    go_loopw [8, 9] (fun sh sk wi => ∃ k : Nat, k ≤ e'.hops.length ∧ sk = .int .i64 (k : Int) ∧ sh = .bool ((e'.hops.take k).contains x) ∧ LS w wi g e' (.slice Ah e'.hops.length ch) (.slice A2 e'.hops.length c2)) (fun _ k _ => e'.hops.length - (intOf k).toNat)
    case atStart => exact ⟨0, by omega, rfl, by simp, HL.out⟩
    case round =>
      clear HL
      obtain ⟨k, hk, rfl, rfl, hL⟩ := hrel
      have HL := Lib.hid hL
      clear hL
      obtain ⟨r0, r1, r2⟩ := env_cells HL.out.rv
      have hcx := Hcx.out _ HL.out.b
      by_cases hkn : k < e'.hops.length
      · obtain ⟨b, off, hA, hcell⟩ := ints_at (Rd.of_own HL.out.own) rfl (by omega)
        have hck := hcell k hkn
        subst hA
        obtain ⟨y, hy⟩ : ∃ y, y = e'.hops.getD k 0 := ⟨_, rfl⟩
        rw [← hy] at hck
        have Htk := Lib.hid (show e'.hops.take (k + 1) = e'.hops.take k ++ [y] by rw [take_succ_getD e'.hops k hkn, hy])
        clear hy hcell
        generalize hcb : (e'.hops.take k).contains x = cb
        have Hcb := Lib.hid hcb
        clear hcb
        cases cb with
        | true =>
          have Hz := Lib.hid (show (e'.hops.take (k + 1)).contains x = true by rw [Htk.out, List.contains_eq_mem, decide_eq_true_eq, List.mem_append]; exact .inl (by simpa using Hcb.out))
          go_wp2_with fail
          (refine Ord.wp_region_ord [(false, 0), (false, 1), (false, 2), (false, 3), (false, 4), (false, 5), (false, 6), (false, 7), (false, 8), (false, 9), (false, 10), (false, 11), (false, 12), (false, 13)] (fun _ => True) (by kernel_rfl) (by kernel_rfl) (by kernel_rfl) (by kernel_rfl) (by trivial) ?_; simp only [Ord.ordOps, List.filterMap_cons, List.filterMap_nil, List.getElem?_toArray, List.getElem?_cons_succ, List.getElem?_cons_zero, Option.map_some]; repeat (first | (refine Ord.wpOrd_skip ?_ ?_; (focus (go_simp; (try (intro h; cases h)); done)); simp only [Act.put, List.setIfInBounds_toArray, List.set_cons_zero, List.set_cons_succ]) | (refine Ord.wpOrd_take (v := ?_) ?_ ?_ ?_; rotate_left; (focus (go_simp; done)); (focus (intro w' hSw; (try dsimp only at hSw); go_simp; (try with_reducible rfl); done)); simp only [Act.put, List.setIfInBounds_toArray, List.set_cons_zero, List.set_cons_succ])))
          refine Ord.wpOrd_nil ?_
          go_wp2_with fail
          exact ⟨⟨k + 1, by omega, by go_num, by rw [Hz.out], HL.out.drew⟩, by simp only [intOf]; omega⟩
        | false =>
          by_cases hyx : y = x
          · have e0 : (y == x) = true := by simpa using hyx
            have Hz := Lib.hid (show (e'.hops.take (k + 1)).contains x = true by rw [Htk.out, hyx]; simp)
            clear hyx
            go_wp2_with fail
            (refine Ord.wp_region_ord [(false, 0), (false, 1), (false, 2), (false, 3), (false, 4), (false, 5), (false, 6), (false, 7), (false, 8), (false, 9), (false, 10), (false, 11), (false, 12), (false, 13)] (fun W => W.cell? ⟨g, 0, none⟩ = some (.slice (some ⟨b, off, none⟩) e'.hops.length c2) ∧ W.cell? ⟨b, off + k, none⟩ = some (.int .i64 y) ∧ W.cell? ⟨bl, ol + i, none⟩ = some (.int .i64 x)) (by kernel_rfl) (by kernel_rfl) (by kernel_rfl) (by kernel_rfl) (by exact ⟨r0, hck, hcx⟩) ?_; simp only [Ord.ordOps, List.filterMap_cons, List.filterMap_nil, List.getElem?_toArray, List.getElem?_cons_succ, List.getElem?_cons_zero, Option.map_some]; repeat (first | (refine Ord.wpOrd_skip ?_ ?_; (focus (go_simp; (try (intro h; cases h)); done)); simp only [Act.put, List.setIfInBounds_toArray, List.set_cons_zero, List.set_cons_succ]) | (refine Ord.wpOrd_take (v := ?_) ?_ ?_ ?_; rotate_left; (focus (go_simp; done)); (focus (intro w' hSw; (try dsimp only at hSw); go_simp; (try with_reducible rfl); done)); simp only [Act.put, List.setIfInBounds_toArray, List.set_cons_zero, List.set_cons_succ])))
            refine Ord.wpOrd_nil ?_
            go_wp2_with fail
            exact ⟨⟨k + 1, by omega, by go_num, by rw [Hz.out], HL.out.drew⟩, by simp only [intOf]; omega⟩
          · have e0 : (y == x) = false := by simpa using hyx
            have Hz := Lib.hid (show (e'.hops.take (k + 1)).contains x = false by rw [Htk.out]; have := Hcb.out; simp at this ⊢; exact ⟨this, fun h => hyx h.symm⟩)
            clear hyx
            go_wp2_with fail
            (refine Ord.wp_region_ord [(false, 0), (false, 1), (false, 2), (false, 3), (false, 4), (false, 5), (false, 6), (false, 7), (false, 8), (false, 9), (false, 10), (false, 11), (false, 12), (false, 13)] (fun W => W.cell? ⟨g, 0, none⟩ = some (.slice (some ⟨b, off, none⟩) e'.hops.length c2) ∧ W.cell? ⟨b, off + k, none⟩ = some (.int .i64 y) ∧ W.cell? ⟨bl, ol + i, none⟩ = some (.int .i64 x)) (by kernel_rfl) (by kernel_rfl) (by kernel_rfl) (by kernel_rfl) (by exact ⟨r0, hck, hcx⟩) ?_; simp only [Ord.ordOps, List.filterMap_cons, List.filterMap_nil, List.getElem?_toArray, List.getElem?_cons_succ, List.getElem?_cons_zero, Option.map_some]; repeat (first | (refine Ord.wpOrd_skip ?_ ?_; (focus (go_simp; (try (intro h; cases h)); done)); simp only [Act.put, List.setIfInBounds_toArray, List.set_cons_zero, List.set_cons_succ]) | (refine Ord.wpOrd_take (v := ?_) ?_ ?_ ?_; rotate_left; (focus (go_simp; done)); (focus (intro w' hSw; (try dsimp only at hSw); go_simp; (try with_reducible rfl); done)); simp only [Act.put, List.setIfInBounds_toArray, List.set_cons_zero, List.set_cons_succ])))
            refine Ord.wpOrd_nil ?_
            go_wp2_with fail
            exact ⟨⟨k + 1, by omega, by go_num, by rw [Hz.out], HL.out.drew⟩, by simp only [intOf]; omega⟩
      · obtain rfl : k = e'.hops.length := by omega
        rw [List.take_of_length_le (Nat.le_refl _)]
        have hfd : (e'.pass x).2 = if !e'.right || !peerB x then 2 else if e'.hops.contains x then 14 else if (e'.hops.length : Int) = e'.limit then 15 else 0 := by
          unfold E.pass; split; rfl; split; rfl; split <;> rfl
        have hle : e'.right = true → (e'.hops.length : Int) ≤ e'.limit := fun h => (right_facts h).2.2.1
        generalize e'.hops.contains x = cb at hfd ⊢
        obtain ⟨pb, hpb⟩ : ∃ p, p = peerB x := ⟨_, rfl⟩
        obtain ⟨fv, hfv⟩ : ∃ f, f = (e'.pass x).2 := ⟨_, rfl⟩
        have hri := fun W (h : LS w W g e' (.slice Ah e'.hops.length ch) (.slice A2 e'.hops.length c2)) => rright_any e' _ W h.ein2
        obtain ⟨rt, hrt⟩ : ∃ p, p = e'.right := ⟨_, rfl⟩
        rw [← hpb, ← hfv, ← hrt] at hfd
        rw [← hrt] at hri hle
        have Hfd := Lib.hid hfd
        have Hle := Lib.hid hle
        have Hri := Lib.hid hri
        have Hpb := Lib.hid hpb
        have Hfv := Lib.hid hfv
        have Hrt := Lib.hid hrt
        clear hfd hle hri hpb hfv hrt hkn
        go_upto_region 13 with fail
        go_cut [70] from 54 to 69 (fun s70 wx => s70 = .bool (!rt || !pb) ∧ LS w wx g e' (.slice Ah e'.hops.length ch) (.slice A2 e'.hops.length c2))
        case first =>
          cases rt with
          | false =>
            go_wp2_with (go_at_call 38; refine (Hri.out _ HL.out).mono ?_; rintro r w5 ⟨rfl, hb5⟩; have HL5 := Lib.hid (HL.out.below hb5); have hcx5 := Hcx.out _ HL5.out.b; clear hb5)
            go_meet
            exact ⟨rfl, HL5.out⟩
          | true =>
            by_cases g1 : 0 ≤ x
            rotate_left
            · have d1 : decide (x < 0) = true := decide_eq_true (by omega)
              have hp : pb = false := by rw [Hpb.out, peerB, decide_eq_false g1]; rfl
              subst hp
              go_wp2_with (go_at_call 38; refine (Hri.out _ HL.out).mono ?_; rintro r w5 ⟨rfl, hb5⟩; have HL5 := Lib.hid (HL.out.below hb5); have hcx5 := Hcx.out _ HL5.out.b; clear hb5)
              go_meet
              exact ⟨rfl, HL5.out⟩
            have d1 : decide (x < 0) = false := decide_eq_false (by omega)
            by_cases g2 : x < 16
            rotate_left
            · have d2 : decide (15 < x) = true := decide_eq_true (by omega)
              have hp : pb = false := by rw [Hpb.out, peerB, decide_eq_false g2]; simp
              subst hp
              go_wp2_with (go_at_call 38; refine (Hri.out _ HL.out).mono ?_; rintro r w5 ⟨rfl, hb5⟩; have HL5 := Lib.hid (HL.out.below hb5); have hcx5 := Hcx.out _ HL5.out.b; clear hb5)
              go_meet
              exact ⟨rfl, HL5.out⟩
            have d2 : decide (15 < x) = false := decide_eq_false (by omega)
            have hp : pb = true := by rw [Hpb.out, peerB, decide_eq_true g1, decide_eq_true g2]; rfl
            subst hp
            go_wp2_with (go_at_call 38; refine (Hri.out _ HL.out).mono ?_; rintro r w5 ⟨rfl, hb5⟩; have HL5 := Lib.hid (HL.out.below hb5); have hcx5 := Hcx.out _ HL5.out.b; clear hb5)
            go_meet
            exact ⟨rfl, HL5.out⟩
        case rest =>
          obtain ⟨rfl, hL⟩ := hcut
          clear HL
          have HL := Lib.hid hL
          clear hL r0 r1 r2 hcx
          obtain ⟨r0, r1, r2⟩ := env_cells HL.out.rv
          have hfd := Hfd.out
          have hle := Hle.out
          have hbr : (!rt || !pb) = false → rt = true := by cases rt <;> simp
          generalize (!rt || !pb) = bad at hfd hbr ⊢
          have Hbr := Lib.hid hbr
          have Hfd2 := Lib.hid hfd
          clear hfd hle hbr
          go_upto_if 70 with fail
          go_cut [7] from 71 to 77 (fun s7 wx => s7 = .int .i64 fv ∧ LS w wx g e' (.slice Ah e'.hops.length ch) (.slice A2 e'.hops.length c2))
          case first =>
            have hfd := Hfd2.out
            clear Hfd2
            cases bad with
            | true =>
              have hf2 : fv = 2 := hfd
              subst hf2
              go_wp2_with fail
              go_meet
              exact ⟨rfl, HL.out⟩
            | false =>
              have hle := Hle.out (Hbr.out rfl)
              cases cb with
              | true =>
                have hf2 : fv = 14 := hfd
                subst hf2
                go_wp2_with fail
                go_meet
                exact ⟨rfl, HL.out⟩
              | false =>
                by_cases hq : (e'.hops.length : Int) = e'.limit
                · have hf2 : fv = 15 := by rw [hfd]; simp [hq]
                  subst hf2
                  have d1 : decide (e'.limit ≤ (e'.hops.length : Int)) = true := decide_eq_true (by omega)
                  clear hq hfd
                  go_wp2_with fail
                  go_meet
                  exact ⟨rfl, HL.out⟩
                · have hf2 : fv = 0 := by rw [hfd]; simp [hq]
                  subst hf2
                  have d1 : decide (e'.limit ≤ (e'.hops.length : Int)) = false := decide_eq_false (by omega)
                  clear hq hfd
                  go_wp2_with fail
                  go_meet
                  exact ⟨rfl, HL.out⟩
          case rest =>
            obtain ⟨rfl, hL⟩ := hcut
            clear HL
            have HL := Lib.hid hL
            clear hL r0 r1 r2
            have hpo := fun W (h : LS w W g e' (.slice Ah e'.hops.length ch) (.slice A2 e'.hops.length c2)) => pass_own e' (.slice Ah e'.hops.length ch) x W h.ein (by omega)
            obtain ⟨ps, hps⟩ : ∃ p, p = (e'.pass x).1 := ⟨_, rfl⟩
            rw [← hps, ← Hfv.out] at hpo
            have hpz := pass_zero e' x
            have hpg := pass_good e' x
            rw [← hps, ← Hfv.out] at hpz hpg
            have Hpo := Lib.hid hpo
            have Hpz := Lib.hid hpz
            have Hpg := Lib.hid hpg
            clear hpo hps hpz hpg Hfd Hle Hri Hpb Hfv Hrt Hfd2 Hbr
            go_upto_region 19 with fail
            obtain ⟨c0, c1, c2'⟩ := env_cells HL.out.drew.ev
            have hcx := Hcx.out _ HL.out.drew.b
            go_cut [10, 11] from 78 to 86 (fun s10 s11 wx => ∃ (g10 : Nat) (hx : Value) (B : Nat), s10 = .pointer (some ⟨g10, 0, none⟩) ∧ s11 = .int .i64 fv ∧ wx.heap[g10]? = some (.cells #[hx, .int .i64 ps.limit, .string (str ps.inner)] 56 (0, 0)) ∧ LS w wx g e' (.slice Ah e'.hops.length ch) (.slice A2 e'.hops.length c2) ∧ wx.ownsRow B 3 1 hx ps.hops.length (is ps.hops) ∧ g < B ∧ w.heap.size < B ∧ (g10 ≠ g ∧ g10 ≠ w.heap.size ∧ (Value.slice A2 e'.hops.length c2).ownBlock ≠ some g10) ∧ ∀ k, (Value.slice A2 e'.hops.length c2).ownBlock = some k → k < B)
            case first =>
              (refine Ord.wp_region_tree (Ord.OT.of [(false, 0), (false, 1), (false, 2), (false, 3), (false, 4)] (Ord.OT.two 5 (Ord.OT.of [(false, 6), (false, 7), (false, 8), (true, 9), (true, 10), (false, 11)] Ord.OT.nil) 9 (Ord.OT.of [(true, 5), (false, 6), (false, 7), (false, 8), (true, 10), (false, 11)] Ord.OT.nil))) (fun W => (W.cell? ⟨w.heap.size, 0, none⟩ = some (.slice Ah e'.hops.length ch) ∧ W.cell? ⟨w.heap.size, 1, none⟩ = some (.int .i64 e'.limit) ∧ W.cell? ⟨w.heap.size, 2, none⟩ = some (.string (str e'.inner))) ∧ W.cell? ⟨bl, ol + i, none⟩ = some (.int .i64 x)) (by kernel_rfl) (by kernel_rfl) (by kernel_rfl) (by kernel_rfl) (by exact ⟨⟨c0, c1, c2'⟩, hcx⟩) ?_; simp only [Ord.OT.of, Ord.OT.opers, List.getElem?_toArray, List.getElem?_cons_succ, List.getElem?_cons_zero]; repeat (first | (refine Ord.wpT_skip ?_ ?_; (focus (go_simp; (try (intro h; cases h)); done)); simp only [Act.put, List.setIfInBounds_toArray, List.set_cons_zero, List.set_cons_succ]) | (refine Ord.wpT_take (v := ?_) ?_ ?_ ?_; rotate_left; (focus (go_simp; done)); (focus (intro w' hSw; (try dsimp only at hSw); go_simp; (try with_reducible rfl); done)); simp only [Act.put, List.setIfInBounds_toArray, List.set_cons_zero, List.set_cons_succ])))
              refine Ord.wpT_two ?_ ?_
              · (refine Ord.wpT_call ?_ (fun K hK => ?_); (focus (go_simp; done)); go_simp)
                go_at_call 46
                refine (Hpo.out _ HL.out.drew).mono ?_
                rintro r w6 ⟨hx, rfl, hox, hb6⟩
                obtain ⟨Ax, cx, rfl, -, -, -⟩ := (Rd.of_own hox).slice_
                have L6 := HL.out.drew.below hb6
                have HL6 := Lib.hid L6
                have Hox := Lib.hid hox
                have Hb6 := Lib.hid hb6
                clear hox hb6 L6
                (refine hK _ _ (by exact ⟨env_cells HL6.out.ev, Hcx.out _ HL6.out.b⟩) ?_; clear hK K; (try simp only [Act.put, List.setIfInBounds_toArray, List.set_cons_zero, List.set_cons_succ]); repeat (first | (refine Ord.wpT_skip ?_ ?_; (focus (go_simp; (try (intro h; cases h)); done)); simp only [Act.put, List.setIfInBounds_toArray, List.set_cons_zero, List.set_cons_succ]) | (refine Ord.wpT_take (v := ?_) ?_ ?_ ?_; rotate_left; (focus (go_simp; done)); (focus (intro w' hSw; (try dsimp only at hSw); go_simp; (try with_reducible rfl); done)); simp only [Act.put, List.setIfInBounds_toArray, List.set_cons_zero, List.set_cons_succ])))
                (refine Ord.wpT_call ?_ (fun K hK => ?_); (focus (go_simp; done)); go_simp)
                (refine hK _ _ (by exact ⟨env_cells (HL6.out.below (below_one _ _)).ev, Hcx.out _ (HL6.out.below (below_one _ _)).b⟩) ?_; clear hK K; (try simp only [Act.put, List.setIfInBounds_toArray, List.set_cons_zero, List.set_cons_succ]); repeat (first | (refine Ord.wpT_skip ?_ ?_; (focus (go_simp; (try (intro h; cases h)); done)); simp only [Act.put, List.setIfInBounds_toArray, List.set_cons_zero, List.set_cons_succ]) | (refine Ord.wpT_take (v := ?_) ?_ ?_ ?_; rotate_left; (focus (go_simp; done)); (focus (intro w' hSw; (try dsimp only at hSw); go_simp; (try with_reducible rfl); done)); simp only [Act.put, List.setIfInBounds_toArray, List.set_cons_zero, List.set_cons_succ])))
                (refine Ord.wpT_call ?_ (fun K hK => ?_); (focus (go_simp; done)); go_simp)
                have L7 := HL6.out.below (below_one w6 (.cells #[.slice Ax ps.hops.length cx, .int .i64 ps.limit, .string (str ps.inner)] 56))
                have HL7 := Lib.hid L7
                clear L7
                (refine hK _ _ (by exact ⟨env_cells HL7.out.ev, Hcx.out _ HL7.out.b⟩) ?_; clear hK K; (try simp only [Act.put, List.setIfInBounds_toArray, List.set_cons_zero, List.set_cons_succ]); repeat (first | (refine Ord.wpT_skip ?_ ?_; (focus (go_simp; (try (intro h; cases h)); done)); simp only [Act.put, List.setIfInBounds_toArray, List.set_cons_zero, List.set_cons_succ]) | (refine Ord.wpT_take (v := ?_) ?_ ?_ ?_; rotate_left; (focus (go_simp; done)); (focus (intro w' hSw; (try dsimp only at hSw); go_simp; (try with_reducible rfl); done)); simp only [Act.put, List.setIfInBounds_toArray, List.set_cons_zero, List.set_cons_succ])))
                refine Ord.wpT_nil ?_
                go_wp2_with fail
                go_meet
                have hz6 := Hb6.out.size
                have hz7 : wc.drew.heap.size = wc.heap.size := rfl
                exact ⟨w6.heap.size, _, wc.heap.size, rfl, rfl, heap_alloc_new _ _, HL7.out, own_alloc Hox.out _, blk_lt HL.out.rv, blk_lt HL.out.ev, ⟨by have := blk_lt HL.out.rv; omega, by have := blk_lt HL.out.ev; omega, fun e1 => by have := (HL.out.own.lt _ e1).2; omega⟩, fun k hk => (HL.out.own.lt k hk).2⟩
              · (refine Ord.wpT_call ?_ (fun K hK => ?_); (focus (go_simp; done)); go_simp)
                have La := HL.out.below ((below_one wc (.cells #[.slice none 0 0, .int .i64 0, .string ⟨#[]⟩] 56)).drew)
                have HLa := Lib.hid La
                clear La
                (refine hK _ _ (by exact ⟨env_cells HLa.out.ev, Hcx.out _ HLa.out.b⟩) ?_; clear hK K; (try simp only [Act.put, List.setIfInBounds_toArray, List.set_cons_zero, List.set_cons_succ]); repeat (first | (refine Ord.wpT_skip ?_ ?_; (focus (go_simp; (try (intro h; cases h)); done)); simp only [Act.put, List.setIfInBounds_toArray, List.set_cons_zero, List.set_cons_succ]) | (refine Ord.wpT_take (v := ?_) ?_ ?_ ?_; rotate_left; (focus (go_simp; done)); (focus (intro w' hSw; (try dsimp only at hSw); go_simp; (try with_reducible rfl); done)); simp only [Act.put, List.setIfInBounds_toArray, List.set_cons_zero, List.set_cons_succ])))
                (refine Ord.wpT_call ?_ (fun K hK => ?_); (focus (go_simp; done)); go_simp)
                go_at_call 46
                refine (Hpo.out _ HLa.out).mono ?_
                rintro r w6 ⟨hx, rfl, hox, hb6⟩
                obtain ⟨Ax, cx, rfl, -, -, -⟩ := (Rd.of_own hox).slice_
                have L6 := HLa.out.below hb6
                have hk6 : w6.heap[wc.heap.size]? = some (.cells #[.slice none 0 0, .int .i64 0, .string ⟨#[]⟩] 56 (0, 0)) := blk_below (by exact heap_alloc_new wc _) hb6
                have hz6 := hb6.size
                have hz7 : ((wc.alloc (.cells #[.slice none 0 0, .int .i64 0, .string ⟨#[]⟩] 56)).drew).heap.size = wc.heap.size + 1 := alloc_size _ _
                have hb7 : Below wc.heap.size wc w6 := ((below_one wc _).drew).trans (hb6.mono (by rw [hz7]; omega))
                have Hox := Lib.hid hox
                have HL6 := Lib.hid L6
                clear hox hb6 L6
                obtain ⟨z0, z1, z2⟩ := env_cells hk6
                have q0 := blk_frozen hk6 0
                have q1 := blk_frozen hk6 1
                have q2 := blk_frozen hk6 2
                (refine hK _ _ (by exact ⟨env_cells HL6.out.ev, Hcx.out _ HL6.out.b⟩) ?_; clear hK K; (try simp only [Act.put, List.setIfInBounds_toArray, List.set_cons_zero, List.set_cons_succ]); repeat (first | (refine Ord.wpT_skip ?_ ?_; (focus (go_simp; (try (intro h; cases h)); done)); simp only [Act.put, List.setIfInBounds_toArray, List.set_cons_zero, List.set_cons_succ]) | (refine Ord.wpT_take (v := ?_) ?_ ?_ ?_; rotate_left; (focus (go_simp; done)); (focus (intro w' hSw; (try dsimp only at hSw); go_simp; (try with_reducible rfl); done)); simp only [Act.put, List.setIfInBounds_toArray, List.set_cons_zero, List.set_cons_succ])))
                (refine Ord.wpT_call ?_ (fun K hK => ?_); (focus (go_simp; done)); go_simp)
                have L8 := HL.out.below (below_set (below_set (below_set hb7 (Nat.le_refl _) 0 (.slice Ax ps.hops.length cx)) (Nat.le_refl _) 1 (.int .i64 ps.limit)) (Nat.le_refl _) 2 (.string (str ps.inner)))
                have HL8 := Lib.hid L8
                clear L8
                (refine hK _ _ (by exact ⟨env_cells HL8.out.ev, Hcx.out _ HL8.out.b⟩) ?_; clear hK K; (try simp only [Act.put, List.setIfInBounds_toArray, List.set_cons_zero, List.set_cons_succ]); repeat (first | (refine Ord.wpT_skip ?_ ?_; (focus (go_simp; (try (intro h; cases h)); done)); simp only [Act.put, List.setIfInBounds_toArray, List.set_cons_zero, List.set_cons_succ]) | (refine Ord.wpT_take (v := ?_) ?_ ?_ ?_; rotate_left; (focus (go_simp; done)); (focus (intro w' hSw; (try dsimp only at hSw); go_simp; (try with_reducible rfl); done)); simp only [Act.put, List.setIfInBounds_toArray, List.set_cons_zero, List.set_cons_succ])))
                refine Ord.wpT_nil ?_
                go_wp2_with fail
                go_meet
                have hlt : wc.heap.size < ((wc.alloc (.cells #[.slice none 0 0, .int .i64 0, .string ⟨#[]⟩] 56)).drew).heap.size := by rw [hz7]; omega
                exact ⟨wc.heap.size, _, _, rfl, rfl, set3 hk6, HL8.out, own_set (own_set (own_set Hox.out hlt _ _) hlt _ _) hlt _ _, by have := blk_lt HL.out.rv; omega, by have := blk_lt HL.out.ev; omega, ⟨by have := blk_lt HL.out.rv; omega, by have := blk_lt HL.out.ev; omega, fun e1 => by have := (HL.out.own.lt _ e1).2; omega⟩, fun k hk => by have := (HL.out.own.lt k hk).2; omega⟩
            case rest =>
              obtain ⟨g10, hx, B, rfl, rfl, hg10, hL, hox, hgB, hwB, ⟨n1, n2, n3⟩, hkB⟩ := hcut
              clear HL
              have HL := Lib.hid hL
              have Hg10 := Lib.hid hg10
              have Hox := Lib.hid hox
              have HkB := Lib.hid hkB
              have N3 := Lib.hid n3
              obtain ⟨Ax, cx, rfl, -, -, -⟩ := (Rd.of_own hox).slice_
              clear hL hg10 hox hkB n3 c0 c1 c2' hcx
              by_cases hf0 : fv = 0
              rotate_left
              · have d1 : (fv == 0) = false := by simpa using hf0
                have d2 : (fv != 0) = true := by simpa using hf0
                have hpE := Hpz.out hf0
                clear hf0 Hpz Hpg
                subst hpE
                go_upto_region 23 with fail
                obtain ⟨z0, z1, z2⟩ := env_cells Hg10.out
                have hez : EIn wc E.zero (.slice Ax E.zero.hops.length cx) := ⟨Rd.of_own Hox.out, by show I64 0; unfold I64; omega, by intro y hy; simp [E.zero] at hy, by simp [E.zero]⟩
                have Hez := Lib.hid hez
                clear hez Hpo
                go_wp2_with (first
                  | (go_at_call 35; refine (own_any E.zero (.slice Ax E.zero.hops.length cx) _ Hez.out (by decide)).mono ?_; rintro r w6 ⟨v6, rfl, ho6, hb6⟩; have hB6 := below_go hb6 (Below.refl wc.heap.size wc); have Ho6 := Lib.hid ho6; clear ho6 hb6)
                  | (go_at_call 42; refine (same_any [] 0 (str []) v6 (.slice none 0 0) _ (Rd.of_own Ho6.out) (Rd.nil _ _)).mono ?_; rintro r w7 ⟨rfl, hb7⟩; have hB7 := below_go hb7 hB6; clear hb7))
                exact ⟨⟨i + 1, e', _, _, by go_num, by omega, by omega, by omega, HL.out.below hB7⟩, by simp only [intOf]; omega⟩
              · subst hf0
                obtain ⟨hpE, hrg, hlg⟩ := Hpg.out rfl
                clear Hpz Hpg
                subst hpE
                have hln : (e'.hops ++ [x]).length = e'.hops.length + 1 := by rw [List.length_append]; rfl
                have hox' := Hox.out
                have hg10' := Hg10.out
                simp only [hln] at hox' hg10'
                clear Hox Hg10 Hpo
                have RA := HL.out.drew.below (below_one _ (.cells #[.int .i64 x] 3))
                have Hg10 := Lib.hid hg10'
                have hfin : ∀ v1 W1, W1.ownsRow (w.heap.size + 1) 3 1 v1 (e'.hops.length + 1) (is e'.hops ++ [.int .i64 x]) → (wc.drew.alloc (.cells #[.int .i64 x] 3)).grownBy W1 (Value.slice A2 e'.hops.length c2).ownBlock → (v1.ownBlock = (Value.slice A2 e'.hops.length c2).ownBlock ∨ ∃ b, v1.ownBlock = some b ∧ (wc.drew.alloc (.cells #[.int .i64 x] 3)).heap.size ≤ b) → LS w (((((W1.setCell ⟨g, 0, none⟩ v1).setCell ⟨w.heap.size, 0, none⟩ (.slice Ax (e'.hops.length + 1) cx)).setCell ⟨w.heap.size, 1, none⟩ (.int .i64 e'.limit)).setCell ⟨w.heap.size, 2, none⟩ (.string (str e'.inner)))) g ⟨e'.hops ++ [x], e'.limit, e'.inner⟩ (.slice Ax (e'.hops.length + 1) cx) v1 ∧ (W1.setCell ⟨g, 0, none⟩ v1).heap[g10]? = some (.cells #[.slice Ax (e'.hops.length + 1) cx, .int .i64 e'.limit, .string (str e'.inner)] 56 (0, 0)) ∧ (W1.setCell ⟨g, 0, none⟩ v1).heap[w.heap.size]? = some (.cells #[.slice Ah e'.hops.length ch, .int .i64 e'.limit, .string (str e'.inner)] 56 (0, 0)) := by
                  intro v1 W1 ho1 hg1 hat1
                  have hoxa : (wc.drew.alloc (.cells #[.int .i64 x] 3)).ownsRow B 3 1 (.slice Ax (e'.hops.length + 1) cx) (e'.hops.length + 1) (is (e'.hops ++ [x])) := own_alloc hox' _
                  refine ⟨RA.next hxI (by rw [is_append]; exact ho1) hg1 hat1 hgB hwB hoxa (fun k hk e1 => ?_) (fun k hk => (hoxa.lt k hk).2), ?_, ?_⟩
                  · have := HkB.out k hk; have := own_base hoxa k e1; omega
                  · exact blk_far (blk_grown (blk_below Hg10.out ((Below.refl wc.heap.size wc).drew.alloc (Nat.le_refl _) _)) hg1 (fun e1 => N3.out e1.symm)) n1 _
                  · exact blk_far (blk_grown RA.ev hg1 (fun e1 => by have := own_base RA.own _ e1.symm; omega)) (show w.heap.size ≠ g from by have := RA.lg; omega) _
                have Hfin := Lib.hid hfin
                have Hrg := Lib.hid hrg
                have Hn8 := Lib.hid (show (e'.hops ++ [x]).length * 8 ≤ 140737488355328 by rw [hln]; omega)
                have Hn41 := Lib.hid (show (e'.hops ++ [x]).length ≤ 40 + (i + 1) by rw [hln]; omega)
                have d3a : decide (e'.limit < ((e'.hops.length + 1 : Nat) : Int)) = false := decide_eq_false (by omega)
                have d3b : decide (e'.limit < (e'.hops.length : Int) + 1) = false := decide_eq_false (by omega)
                clear hrg hln hlg
                clear hfin hox' hg10'
                go_upto_region 25 with fail
                obtain ⟨r0, -, -⟩ := env_cells HL.out.drew.rv
                have hcx := Hcx.out _ HL.out.drew.b
                have s0 : ((wc.alloc (.cells #[.int .i64 x] 3)).drew).cell? ⟨g, 0, none⟩ = some (.slice A2 e'.hops.length c2) := (env_cells RA.rv).1
                have hcy : ((wc.alloc (.cells #[.int .i64 x] 3)).drew).cell? ⟨bl, ol + i, none⟩ = some (.int .i64 x) := Hcx.out _ RA.b
                (refine Ord.wp_region_tree (Ord.OT.of [(false, 0), (false, 2), (false, 3), (false, 4)] (Ord.OT.two 1 (Ord.OT.of [(true, 5), (true, 6), (true, 7), (false, 8), (true, 9)] Ord.OT.nil) 5 (Ord.OT.of [] (Ord.OT.two 1 (Ord.OT.of [(true, 6), (true, 7), (false, 8), (true, 9)] Ord.OT.nil) 6 (Ord.OT.of [(true, 1), (true, 7), (false, 8), (true, 9)] Ord.OT.nil))))) (fun _ => True) (by kernel_rfl) (by kernel_rfl) (by kernel_rfl) (by kernel_rfl) (by trivial) ?_; simp only [Ord.OT.of, Ord.OT.opers, List.getElem?_toArray, List.getElem?_cons_succ, List.getElem?_cons_zero]; repeat (first | (refine Ord.wpT_skip ?_ ?_; (focus (go_simp; (try (intro h; cases h)); done)); simp only [Act.put, List.setIfInBounds_toArray, List.set_cons_zero, List.set_cons_succ]) | (refine Ord.wpT_take (v := ?_) ?_ ?_ ?_; rotate_left; (focus (go_simp; done)); (focus (intro w' hSw; (try dsimp only at hSw); go_simp; (try with_reducible rfl); done)); simp only [Act.put, List.setIfInBounds_toArray, List.set_cons_zero, List.set_cons_succ])))
                refine Ord.wpT_two ?_ ?_
                · (refine Ord.wpT_call ?_ (fun K hK => ?_); (focus (go_simp; done)); go_simp)
                  (refine hK _ _ (by trivial) ?_; clear hK K; (try simp only [Act.put, List.setIfInBounds_toArray, List.set_cons_zero, List.set_cons_succ]); repeat (first | (refine Ord.wpT_skip ?_ ?_; (focus (go_simp; (try (intro h; cases h)); done)); simp only [Act.put, List.setIfInBounds_toArray, List.set_cons_zero, List.set_cons_succ]) | (refine Ord.wpT_take (v := ?_) ?_ ?_ ?_; rotate_left; (focus (go_simp; done)); (focus (intro w' hSw; (try dsimp only at hSw); go_simp; (try with_reducible rfl); done)); simp only [Act.put, List.setIfInBounds_toArray, List.set_cons_zero, List.set_cons_succ])))
                  (refine Ord.wpT_call ?_ (fun K hK => ?_); (focus (go_simp; done)); go_simp)
                  (refine hK _ _ (by trivial) ?_; clear hK K; (try simp only [Act.put, List.setIfInBounds_toArray, List.set_cons_zero, List.set_cons_succ]); repeat (first | (refine Ord.wpT_skip ?_ ?_; (focus (go_simp; (try (intro h; cases h)); done)); simp only [Act.put, List.setIfInBounds_toArray, List.set_cons_zero, List.set_cons_succ]) | (refine Ord.wpT_take (v := ?_) ?_ ?_ ?_; rotate_left; (focus (go_simp; done)); (focus (intro w' hSw; (try dsimp only at hSw); go_simp; (try with_reducible rfl); done)); simp only [Act.put, List.setIfInBounds_toArray, List.set_cons_zero, List.set_cons_succ])))
                  (refine Ord.wpT_call ?_ (fun K hK => ?_); (focus (go_simp; done)); go_simp)
                  (refine hK _ _ (by trivial) ?_; clear hK K; (try simp only [Act.put, List.setIfInBounds_toArray, List.set_cons_zero, List.set_cons_succ]); repeat (first | (refine Ord.wpT_skip ?_ ?_; (focus (go_simp; (try (intro h; cases h)); done)); simp only [Act.put, List.setIfInBounds_toArray, List.set_cons_zero, List.set_cons_succ]) | (refine Ord.wpT_take (v := ?_) ?_ ?_ ?_; rotate_left; (focus (go_simp; done)); (focus (intro w' hSw; (try dsimp only at hSw); go_simp; (try with_reducible rfl); done)); simp only [Act.put, List.setIfInBounds_toArray, List.set_cons_zero, List.set_cons_succ])))
                  refine Ord.wpT_app_row elI64 ?_ (.tmp 98) (.tmp 103) rfl (w.heap.size + 1) (.slice A2 e'.hops.length c2) _ e'.hops.length 1 (is e'.hops) [.int .i64 x] rfl rfl (by intro u hu; simp at hu; subst hu; rfl) RA.own (Rd.lit wc.drew 1 1 [.int .i64 x] 3 rfl (by simp [maxLen])) (Nat.le_trans (Nat.succ_le_of_lt (blk_lt HL.out.drew.ev)) (by show wc.heap.size ≤ (wc.alloc (.cells #[.int .i64 x] 3)).heap.size; rw [alloc_size]; omega)) (by omega) (fun v1 w7 ho7 hg7 hat7 => ⟨trivial, ?_⟩)
                  · go_simp
                  obtain ⟨A7, c7, rfl, -, -, -⟩ := (Rd.of_own ho7).slice_
                  have hrv7 := blk_grown RA.rv hg7 (fun e1 => RA.n5 e1.symm)
                  obtain ⟨d0, -, -⟩ := env_cells hrv7
                  have f0 := blk_frozen hrv7 0
                  have Hn7 := Lib.hid (Hfin.out _ _ ho7 hg7 hat7)
                  clear ho7 hg7 hat7 hrv7
                  ((try simp only [Act.put, List.setIfInBounds_toArray, List.set_cons_zero, List.set_cons_succ]); repeat (first | (refine Ord.wpT_skip ?_ ?_; (focus (go_simp; (try (intro h; cases h)); done)); simp only [Act.put, List.setIfInBounds_toArray, List.set_cons_zero, List.set_cons_succ]) | (refine Ord.wpT_take (v := ?_) ?_ ?_ ?_; rotate_left; (focus (go_simp; done)); (focus (intro w' hSw; (try dsimp only at hSw); go_simp; (try with_reducible rfl); done)); simp only [Act.put, List.setIfInBounds_toArray, List.set_cons_zero, List.set_cons_succ])))
                  (refine Ord.wpT_call ?_ (fun K hK => ?_); (focus (go_simp; done)); go_simp)
                  (refine hK _ _ (by trivial) ?_; clear hK K; (try simp only [Act.put, List.setIfInBounds_toArray, List.set_cons_zero, List.set_cons_succ]); repeat (first | (refine Ord.wpT_skip ?_ ?_; (focus (go_simp; (try (intro h; cases h)); done)); simp only [Act.put, List.setIfInBounds_toArray, List.set_cons_zero, List.set_cons_succ]) | (refine Ord.wpT_take (v := ?_) ?_ ?_ ?_; rotate_left; (focus (go_simp; done)); (focus (intro w' hSw; (try dsimp only at hSw); go_simp; (try with_reducible rfl); done)); simp only [Act.put, List.setIfInBounds_toArray, List.set_cons_zero, List.set_cons_succ])))
                  refine Ord.wpT_nil ?_
                  obtain ⟨p0, p1, p2⟩ := env_cells Hn7.out.2.1
                  obtain ⟨q0, q1, q2⟩ := env_cells Hn7.out.2.2
                  have y0 := blk_frozen Hn7.out.2.2 0
                  have y1 := blk_frozen Hn7.out.2.2 1
                  have y2 := blk_frozen Hn7.out.2.2 2
                  go_upto_region 27 with fail
                  have HLn := Lib.hid Hn7.out.1
                  clear Hn7 p0 p1 p2 q0 q1 q2 y0 y1 y2 d0 f0 r0 s0 hcx hcy
                  generalize ((((w7.setCell ⟨g, 0, none⟩ (.slice A7 (e'.hops.length + 1) c7)).setCell ⟨w.heap.size, 0, none⟩ (.slice Ax (e'.hops.length + 1) cx)).setCell ⟨w.heap.size, 1, none⟩ (.int .i64 e'.limit)).setCell ⟨w.heap.size, 2, none⟩ (.string (str e'.inner))) = wn at HLn ⊢
                  (refine Ord.wp_region_ord [(false, 0), (false, 2), (true, 1), (true, 3), (false, 4), (false, 5), (false, 6), (true, 7), (false, 8), (false, 9), (false, 10), (false, 11), (false, 12), (false, 13), (false, 14), (false, 15), (false, 16), (false, 17)] (fun W => (W.cell? ⟨w.heap.size, 0, none⟩ = some (.slice Ax (e'.hops.length + 1) cx) ∧ W.cell? ⟨w.heap.size, 1, none⟩ = some (.int .i64 e'.limit) ∧ W.cell? ⟨w.heap.size, 2, none⟩ = some (.string (str e'.inner))) ∧ (W.cell? ⟨g, 0, none⟩ = some (.slice A7 (e'.hops.length + 1) c7) ∧ W.cell? ⟨g, 1, none⟩ = some (.int .i64 e'.limit) ∧ W.cell? ⟨g, 2, none⟩ = some (.string (str e'.inner)))) (by kernel_rfl) (by kernel_rfl) (by kernel_rfl) (by kernel_rfl) (by exact ⟨env_cells HLn.out.drew.ev, env_cells HLn.out.drew.rv⟩) ?_; simp only [Ord.ordOps, List.filterMap_cons, List.filterMap_nil, List.getElem?_toArray, List.getElem?_cons_succ, List.getElem?_cons_zero, Option.map_some]; repeat (first | (refine Ord.wpOrd_skip ?_ ?_; (focus (go_simp; (try (intro h; cases h)); done)); simp only [Act.put, List.setIfInBounds_toArray, List.set_cons_zero, List.set_cons_succ]) | (refine Ord.wpOrd_take (v := ?_) ?_ ?_ ?_; rotate_left; (focus (go_simp; done)); (focus (intro w' hSw; (try dsimp only at hSw); go_simp; (try with_reducible rfl); done)); simp only [Act.put, List.setIfInBounds_toArray, List.set_cons_zero, List.set_cons_succ])))
                  (refine Ord.wpOrd_call ?_ (fun K hK => ?_); (focus (go_simp; done)); go_simp)
                  go_at_call 35
                  refine (own_any ⟨e'.hops ++ [x], e'.limit, e'.inner⟩ (.slice Ax (e'.hops.length + 1) cx) _ HLn.out.drew.ein Hn8.out).mono ?_
                  rintro r wa ⟨va, rfl, hoa, hba⟩
                  have hBa := below_go hba (Below.refl wn.heap.size wn).drew
                  have Hoa := Lib.hid hoa
                  clear hoa hba
                  (refine hK _ _ (by exact ⟨env_cells (HLn.out.below hBa).ev, env_cells (HLn.out.below hBa).rv⟩) ?_; clear hK K; (try simp only [Act.put, List.setIfInBounds_toArray, List.set_cons_zero, List.set_cons_succ]); repeat (first | (refine Ord.wpOrd_skip ?_ ?_; (focus (go_simp; (try (intro h; cases h)); done)); simp only [Act.put, List.setIfInBounds_toArray, List.set_cons_zero, List.set_cons_succ]) | (refine Ord.wpOrd_take (v := ?_) ?_ ?_ ?_; rotate_left; (focus (go_simp; done)); (focus (intro w' hSw; (try dsimp only at hSw); go_simp; (try with_reducible rfl); done)); simp only [Act.put, List.setIfInBounds_toArray, List.set_cons_zero, List.set_cons_succ])))
                  (refine Ord.wpOrd_call ?_ (fun K hK => ?_); (focus (go_simp; done)); go_simp)
                  go_at_call 42
                  refine (same_any (e'.hops ++ [x]) e'.limit (str e'.inner) va (.slice A7 (e'.hops.length + 1) c7) _ (Rd.of_own Hoa.out) (Rd.of_own (HLn.out.below hBa).own)).mono ?_
                  rintro r wb ⟨rfl, hbb⟩
                  have hBb := below_go hbb hBa
                  clear hbb
                  (refine hK _ _ (by exact ⟨env_cells (HLn.out.below hBb).ev, env_cells (HLn.out.below hBb).rv⟩) ?_; clear hK K; (try simp only [Act.put, List.setIfInBounds_toArray, List.set_cons_zero, List.set_cons_succ]); repeat (first | (refine Ord.wpOrd_skip ?_ ?_; (focus (go_simp; (try (intro h; cases h)); done)); simp only [Act.put, List.setIfInBounds_toArray, List.set_cons_zero, List.set_cons_succ]) | (refine Ord.wpOrd_take (v := ?_) ?_ ?_ ?_; rotate_left; (focus (go_simp; done)); (focus (intro w' hSw; (try dsimp only at hSw); go_simp; (try with_reducible rfl); done)); simp only [Act.put, List.setIfInBounds_toArray, List.set_cons_zero, List.set_cons_succ])))
                  (refine Ord.wpOrd_call ?_ (fun K hK => ?_); (focus (go_simp; done)); go_simp)
                  go_at_call 37
                  refine (right_any ⟨e'.hops ++ [x], e'.limit, e'.inner⟩ (.slice Ax (e'.hops.length + 1) cx) _ (HLn.out.below hBb).ein).mono ?_
                  rintro r wd ⟨rfl, hbd⟩
                  rw [Hrg.out]
                  have hBd := below_go hbd hBb
                  clear hbd
                  (refine hK _ _ (by exact ⟨env_cells (HLn.out.below hBd).ev, env_cells (HLn.out.below hBd).rv⟩) ?_; clear hK K; (try simp only [Act.put, List.setIfInBounds_toArray, List.set_cons_zero, List.set_cons_succ]); repeat (first | (refine Ord.wpOrd_skip ?_ ?_; (focus (go_simp; (try (intro h; cases h)); done)); simp only [Act.put, List.setIfInBounds_toArray, List.set_cons_zero, List.set_cons_succ]) | (refine Ord.wpOrd_take (v := ?_) ?_ ?_ ?_; rotate_left; (focus (go_simp; done)); (focus (intro w' hSw; (try dsimp only at hSw); go_simp; (try with_reducible rfl); done)); simp only [Act.put, List.setIfInBounds_toArray, List.set_cons_zero, List.set_cons_succ])))
                  refine Ord.wpOrd_nil ?_
                  go_wp2_with fail
                  exact ⟨⟨i + 1, ⟨e'.hops ++ [x], e'.limit, e'.inner⟩, _, _, by go_num, by omega, by omega, Hn41.out, HLn.out.below hBd⟩, by simp only [intOf]; omega⟩
                · (refine Ord.wpT_call ?_ (fun K hK => ?_); (focus (go_simp; done)); go_simp)
                  (refine hK _ _ (by trivial) ?_; clear hK K; (try simp only [Act.put, List.setIfInBounds_toArray, List.set_cons_zero, List.set_cons_succ]); repeat (first | (refine Ord.wpT_skip ?_ ?_; (focus (go_simp; (try (intro h; cases h)); done)); simp only [Act.put, List.setIfInBounds_toArray, List.set_cons_zero, List.set_cons_succ]) | (refine Ord.wpT_take (v := ?_) ?_ ?_ ?_; rotate_left; (focus (go_simp; done)); (focus (intro w' hSw; (try dsimp only at hSw); go_simp; (try with_reducible rfl); done)); simp only [Act.put, List.setIfInBounds_toArray, List.set_cons_zero, List.set_cons_succ])))
                  refine Ord.wpT_two ?_ ?_
                  · (refine Ord.wpT_call ?_ (fun K hK => ?_); (focus (go_simp; done)); go_simp)
                    (refine hK _ _ (by trivial) ?_; clear hK K; (try simp only [Act.put, List.setIfInBounds_toArray, List.set_cons_zero, List.set_cons_succ]); repeat (first | (refine Ord.wpT_skip ?_ ?_; (focus (go_simp; (try (intro h; cases h)); done)); simp only [Act.put, List.setIfInBounds_toArray, List.set_cons_zero, List.set_cons_succ]) | (refine Ord.wpT_take (v := ?_) ?_ ?_ ?_; rotate_left; (focus (go_simp; done)); (focus (intro w' hSw; (try dsimp only at hSw); go_simp; (try with_reducible rfl); done)); simp only [Act.put, List.setIfInBounds_toArray, List.set_cons_zero, List.set_cons_succ])))
                    (refine Ord.wpT_call ?_ (fun K hK => ?_); (focus (go_simp; done)); go_simp)
                    (refine hK _ _ (by trivial) ?_; clear hK K; (try simp only [Act.put, List.setIfInBounds_toArray, List.set_cons_zero, List.set_cons_succ]); repeat (first | (refine Ord.wpT_skip ?_ ?_; (focus (go_simp; (try (intro h; cases h)); done)); simp only [Act.put, List.setIfInBounds_toArray, List.set_cons_zero, List.set_cons_succ]) | (refine Ord.wpT_take (v := ?_) ?_ ?_ ?_; rotate_left; (focus (go_simp; done)); (focus (intro w' hSw; (try dsimp only at hSw); go_simp; (try with_reducible rfl); done)); simp only [Act.put, List.setIfInBounds_toArray, List.set_cons_zero, List.set_cons_succ])))
                    refine Ord.wpT_app_row elI64 ?_ (.tmp 98) (.tmp 103) rfl (w.heap.size + 1) (.slice A2 e'.hops.length c2) _ e'.hops.length 1 (is e'.hops) [.int .i64 x] rfl rfl (by intro u hu; simp at hu; subst hu; rfl) RA.own (Rd.lit wc.drew 1 1 [.int .i64 x] 3 rfl (by simp [maxLen])) (Nat.le_trans (Nat.succ_le_of_lt (blk_lt HL.out.drew.ev)) (by show wc.heap.size ≤ (wc.alloc (.cells #[.int .i64 x] 3)).heap.size; rw [alloc_size]; omega)) (by omega) (fun v1 w7 ho7 hg7 hat7 => ⟨trivial, ?_⟩)
                    · go_simp
                    obtain ⟨A7, c7, rfl, -, -, -⟩ := (Rd.of_own ho7).slice_
                    have hrv7 := blk_grown RA.rv hg7 (fun e1 => RA.n5 e1.symm)
                    obtain ⟨d0, -, -⟩ := env_cells hrv7
                    have f0 := blk_frozen hrv7 0
                    have Hn7 := Lib.hid (Hfin.out _ _ ho7 hg7 hat7)
                    clear ho7 hg7 hat7 hrv7
                    ((try simp only [Act.put, List.setIfInBounds_toArray, List.set_cons_zero, List.set_cons_succ]); repeat (first | (refine Ord.wpT_skip ?_ ?_; (focus (go_simp; (try (intro h; cases h)); done)); simp only [Act.put, List.setIfInBounds_toArray, List.set_cons_zero, List.set_cons_succ]) | (refine Ord.wpT_take (v := ?_) ?_ ?_ ?_; rotate_left; (focus (go_simp; done)); (focus (intro w' hSw; (try dsimp only at hSw); go_simp; (try with_reducible rfl); done)); simp only [Act.put, List.setIfInBounds_toArray, List.set_cons_zero, List.set_cons_succ])))
                    (refine Ord.wpT_call ?_ (fun K hK => ?_); (focus (go_simp; done)); go_simp)
                    (refine hK _ _ (by trivial) ?_; clear hK K; (try simp only [Act.put, List.setIfInBounds_toArray, List.set_cons_zero, List.set_cons_succ]); repeat (first | (refine Ord.wpT_skip ?_ ?_; (focus (go_simp; (try (intro h; cases h)); done)); simp only [Act.put, List.setIfInBounds_toArray, List.set_cons_zero, List.set_cons_succ]) | (refine Ord.wpT_take (v := ?_) ?_ ?_ ?_; rotate_left; (focus (go_simp; done)); (focus (intro w' hSw; (try dsimp only at hSw); go_simp; (try with_reducible rfl); done)); simp only [Act.put, List.setIfInBounds_toArray, List.set_cons_zero, List.set_cons_succ])))
                    refine Ord.wpT_nil ?_
                    obtain ⟨p0, p1, p2⟩ := env_cells Hn7.out.2.1
                    obtain ⟨q0, q1, q2⟩ := env_cells Hn7.out.2.2
                    have y0 := blk_frozen Hn7.out.2.2 0
                    have y1 := blk_frozen Hn7.out.2.2 1
                    have y2 := blk_frozen Hn7.out.2.2 2
                    go_upto_region 27 with fail
                    have HLn := Lib.hid Hn7.out.1
                    clear Hn7 p0 p1 p2 q0 q1 q2 y0 y1 y2 d0 f0 r0 s0 hcx hcy
                    generalize ((((w7.setCell ⟨g, 0, none⟩ (.slice A7 (e'.hops.length + 1) c7)).setCell ⟨w.heap.size, 0, none⟩ (.slice Ax (e'.hops.length + 1) cx)).setCell ⟨w.heap.size, 1, none⟩ (.int .i64 e'.limit)).setCell ⟨w.heap.size, 2, none⟩ (.string (str e'.inner))) = wn at HLn ⊢
                    (refine Ord.wp_region_ord [(false, 0), (false, 2), (true, 1), (true, 3), (false, 4), (false, 5), (false, 6), (true, 7), (false, 8), (false, 9), (false, 10), (false, 11), (false, 12), (false, 13), (false, 14), (false, 15), (false, 16), (false, 17)] (fun W => (W.cell? ⟨w.heap.size, 0, none⟩ = some (.slice Ax (e'.hops.length + 1) cx) ∧ W.cell? ⟨w.heap.size, 1, none⟩ = some (.int .i64 e'.limit) ∧ W.cell? ⟨w.heap.size, 2, none⟩ = some (.string (str e'.inner))) ∧ (W.cell? ⟨g, 0, none⟩ = some (.slice A7 (e'.hops.length + 1) c7) ∧ W.cell? ⟨g, 1, none⟩ = some (.int .i64 e'.limit) ∧ W.cell? ⟨g, 2, none⟩ = some (.string (str e'.inner)))) (by kernel_rfl) (by kernel_rfl) (by kernel_rfl) (by kernel_rfl) (by exact ⟨env_cells HLn.out.drew.ev, env_cells HLn.out.drew.rv⟩) ?_; simp only [Ord.ordOps, List.filterMap_cons, List.filterMap_nil, List.getElem?_toArray, List.getElem?_cons_succ, List.getElem?_cons_zero, Option.map_some]; repeat (first | (refine Ord.wpOrd_skip ?_ ?_; (focus (go_simp; (try (intro h; cases h)); done)); simp only [Act.put, List.setIfInBounds_toArray, List.set_cons_zero, List.set_cons_succ]) | (refine Ord.wpOrd_take (v := ?_) ?_ ?_ ?_; rotate_left; (focus (go_simp; done)); (focus (intro w' hSw; (try dsimp only at hSw); go_simp; (try with_reducible rfl); done)); simp only [Act.put, List.setIfInBounds_toArray, List.set_cons_zero, List.set_cons_succ])))
                    (refine Ord.wpOrd_call ?_ (fun K hK => ?_); (focus (go_simp; done)); go_simp)
                    go_at_call 35
                    refine (own_any ⟨e'.hops ++ [x], e'.limit, e'.inner⟩ (.slice Ax (e'.hops.length + 1) cx) _ HLn.out.drew.ein Hn8.out).mono ?_
                    rintro r wa ⟨va, rfl, hoa, hba⟩
                    have hBa := below_go hba (Below.refl wn.heap.size wn).drew
                    have Hoa := Lib.hid hoa
                    clear hoa hba
                    (refine hK _ _ (by exact ⟨env_cells (HLn.out.below hBa).ev, env_cells (HLn.out.below hBa).rv⟩) ?_; clear hK K; (try simp only [Act.put, List.setIfInBounds_toArray, List.set_cons_zero, List.set_cons_succ]); repeat (first | (refine Ord.wpOrd_skip ?_ ?_; (focus (go_simp; (try (intro h; cases h)); done)); simp only [Act.put, List.setIfInBounds_toArray, List.set_cons_zero, List.set_cons_succ]) | (refine Ord.wpOrd_take (v := ?_) ?_ ?_ ?_; rotate_left; (focus (go_simp; done)); (focus (intro w' hSw; (try dsimp only at hSw); go_simp; (try with_reducible rfl); done)); simp only [Act.put, List.setIfInBounds_toArray, List.set_cons_zero, List.set_cons_succ])))
                    (refine Ord.wpOrd_call ?_ (fun K hK => ?_); (focus (go_simp; done)); go_simp)
                    go_at_call 42
                    refine (same_any (e'.hops ++ [x]) e'.limit (str e'.inner) va (.slice A7 (e'.hops.length + 1) c7) _ (Rd.of_own Hoa.out) (Rd.of_own (HLn.out.below hBa).own)).mono ?_
                    rintro r wb ⟨rfl, hbb⟩
                    have hBb := below_go hbb hBa
                    clear hbb
                    (refine hK _ _ (by exact ⟨env_cells (HLn.out.below hBb).ev, env_cells (HLn.out.below hBb).rv⟩) ?_; clear hK K; (try simp only [Act.put, List.setIfInBounds_toArray, List.set_cons_zero, List.set_cons_succ]); repeat (first | (refine Ord.wpOrd_skip ?_ ?_; (focus (go_simp; (try (intro h; cases h)); done)); simp only [Act.put, List.setIfInBounds_toArray, List.set_cons_zero, List.set_cons_succ]) | (refine Ord.wpOrd_take (v := ?_) ?_ ?_ ?_; rotate_left; (focus (go_simp; done)); (focus (intro w' hSw; (try dsimp only at hSw); go_simp; (try with_reducible rfl); done)); simp only [Act.put, List.setIfInBounds_toArray, List.set_cons_zero, List.set_cons_succ])))
                    (refine Ord.wpOrd_call ?_ (fun K hK => ?_); (focus (go_simp; done)); go_simp)
                    go_at_call 37
                    refine (right_any ⟨e'.hops ++ [x], e'.limit, e'.inner⟩ (.slice Ax (e'.hops.length + 1) cx) _ (HLn.out.below hBb).ein).mono ?_
                    rintro r wd ⟨rfl, hbd⟩
                    rw [Hrg.out]
                    have hBd := below_go hbd hBb
                    clear hbd
                    (refine hK _ _ (by exact ⟨env_cells (HLn.out.below hBd).ev, env_cells (HLn.out.below hBd).rv⟩) ?_; clear hK K; (try simp only [Act.put, List.setIfInBounds_toArray, List.set_cons_zero, List.set_cons_succ]); repeat (first | (refine Ord.wpOrd_skip ?_ ?_; (focus (go_simp; (try (intro h; cases h)); done)); simp only [Act.put, List.setIfInBounds_toArray, List.set_cons_zero, List.set_cons_succ]) | (refine Ord.wpOrd_take (v := ?_) ?_ ?_ ?_; rotate_left; (focus (go_simp; done)); (focus (intro w' hSw; (try dsimp only at hSw); go_simp; (try with_reducible rfl); done)); simp only [Act.put, List.setIfInBounds_toArray, List.set_cons_zero, List.set_cons_succ])))
                    refine Ord.wpOrd_nil ?_
                    go_wp2_with fail
                    exact ⟨⟨i + 1, ⟨e'.hops ++ [x], e'.limit, e'.inner⟩, _, _, by go_num, by omega, by omega, Hn41.out, HLn.out.below hBd⟩, by simp only [intOf]; omega⟩
                  · (refine Ord.wpT_call ?_ (fun K hK => ?_); (focus (go_simp; done)); go_simp)
                    (refine hK _ _ (by trivial) ?_; clear hK K; (try simp only [Act.put, List.setIfInBounds_toArray, List.set_cons_zero, List.set_cons_succ]); repeat (first | (refine Ord.wpT_skip ?_ ?_; (focus (go_simp; (try (intro h; cases h)); done)); simp only [Act.put, List.setIfInBounds_toArray, List.set_cons_zero, List.set_cons_succ]) | (refine Ord.wpT_take (v := ?_) ?_ ?_ ?_; rotate_left; (focus (go_simp; done)); (focus (intro w' hSw; (try dsimp only at hSw); go_simp; (try with_reducible rfl); done)); simp only [Act.put, List.setIfInBounds_toArray, List.set_cons_zero, List.set_cons_succ])))
                    (refine Ord.wpT_call ?_ (fun K hK => ?_); (focus (go_simp; done)); go_simp)
                    (refine hK _ _ (by trivial) ?_; clear hK K; (try simp only [Act.put, List.setIfInBounds_toArray, List.set_cons_zero, List.set_cons_succ]); repeat (first | (refine Ord.wpT_skip ?_ ?_; (focus (go_simp; (try (intro h; cases h)); done)); simp only [Act.put, List.setIfInBounds_toArray, List.set_cons_zero, List.set_cons_succ]) | (refine Ord.wpT_take (v := ?_) ?_ ?_ ?_; rotate_left; (focus (go_simp; done)); (focus (intro w' hSw; (try dsimp only at hSw); go_simp; (try with_reducible rfl); done)); simp only [Act.put, List.setIfInBounds_toArray, List.set_cons_zero, List.set_cons_succ])))
                    refine Ord.wpT_app_row elI64 ?_ (.tmp 98) (.tmp 103) rfl (w.heap.size + 1) (.slice A2 e'.hops.length c2) _ e'.hops.length 1 (is e'.hops) [.int .i64 x] rfl rfl (by intro u hu; simp at hu; subst hu; rfl) RA.own (Rd.lit wc.drew 1 1 [.int .i64 x] 3 rfl (by simp [maxLen])) (Nat.le_trans (Nat.succ_le_of_lt (blk_lt HL.out.drew.ev)) (by show wc.heap.size ≤ (wc.alloc (.cells #[.int .i64 x] 3)).heap.size; rw [alloc_size]; omega)) (by omega) (fun v1 w7 ho7 hg7 hat7 => ⟨trivial, ?_⟩)
                    · go_simp
                    obtain ⟨A7, c7, rfl, -, -, -⟩ := (Rd.of_own ho7).slice_
                    have hrv7 := blk_grown RA.rv hg7 (fun e1 => RA.n5 e1.symm)
                    obtain ⟨d0, -, -⟩ := env_cells hrv7
                    have f0 := blk_frozen hrv7 0
                    have Hn7 := Lib.hid (Hfin.out _ _ ho7 hg7 hat7)
                    clear ho7 hg7 hat7 hrv7
                    ((try simp only [Act.put, List.setIfInBounds_toArray, List.set_cons_zero, List.set_cons_succ]); repeat (first | (refine Ord.wpT_skip ?_ ?_; (focus (go_simp; (try (intro h; cases h)); done)); simp only [Act.put, List.setIfInBounds_toArray, List.set_cons_zero, List.set_cons_succ]) | (refine Ord.wpT_take (v := ?_) ?_ ?_ ?_; rotate_left; (focus (go_simp; done)); (focus (intro w' hSw; (try dsimp only at hSw); go_simp; (try with_reducible rfl); done)); simp only [Act.put, List.setIfInBounds_toArray, List.set_cons_zero, List.set_cons_succ])))
                    (refine Ord.wpT_call ?_ (fun K hK => ?_); (focus (go_simp; done)); go_simp)
                    (refine hK _ _ (by trivial) ?_; clear hK K; (try simp only [Act.put, List.setIfInBounds_toArray, List.set_cons_zero, List.set_cons_succ]); repeat (first | (refine Ord.wpT_skip ?_ ?_; (focus (go_simp; (try (intro h; cases h)); done)); simp only [Act.put, List.setIfInBounds_toArray, List.set_cons_zero, List.set_cons_succ]) | (refine Ord.wpT_take (v := ?_) ?_ ?_ ?_; rotate_left; (focus (go_simp; done)); (focus (intro w' hSw; (try dsimp only at hSw); go_simp; (try with_reducible rfl); done)); simp only [Act.put, List.setIfInBounds_toArray, List.set_cons_zero, List.set_cons_succ])))
                    refine Ord.wpT_nil ?_
                    obtain ⟨p0, p1, p2⟩ := env_cells Hn7.out.2.1
                    obtain ⟨q0, q1, q2⟩ := env_cells Hn7.out.2.2
                    have y0 := blk_frozen Hn7.out.2.2 0
                    have y1 := blk_frozen Hn7.out.2.2 1
                    have y2 := blk_frozen Hn7.out.2.2 2
                    go_upto_region 27 with fail
                    have HLn := Lib.hid Hn7.out.1
                    clear Hn7 p0 p1 p2 q0 q1 q2 y0 y1 y2 d0 f0 r0 s0 hcx hcy
                    generalize ((((w7.setCell ⟨g, 0, none⟩ (.slice A7 (e'.hops.length + 1) c7)).setCell ⟨w.heap.size, 0, none⟩ (.slice Ax (e'.hops.length + 1) cx)).setCell ⟨w.heap.size, 1, none⟩ (.int .i64 e'.limit)).setCell ⟨w.heap.size, 2, none⟩ (.string (str e'.inner))) = wn at HLn ⊢
                    (refine Ord.wp_region_ord [(false, 0), (false, 2), (true, 1), (true, 3), (false, 4), (false, 5), (false, 6), (true, 7), (false, 8), (false, 9), (false, 10), (false, 11), (false, 12), (false, 13), (false, 14), (false, 15), (false, 16), (false, 17)] (fun W => (W.cell? ⟨w.heap.size, 0, none⟩ = some (.slice Ax (e'.hops.length + 1) cx) ∧ W.cell? ⟨w.heap.size, 1, none⟩ = some (.int .i64 e'.limit) ∧ W.cell? ⟨w.heap.size, 2, none⟩ = some (.string (str e'.inner))) ∧ (W.cell? ⟨g, 0, none⟩ = some (.slice A7 (e'.hops.length + 1) c7) ∧ W.cell? ⟨g, 1, none⟩ = some (.int .i64 e'.limit) ∧ W.cell? ⟨g, 2, none⟩ = some (.string (str e'.inner)))) (by kernel_rfl) (by kernel_rfl) (by kernel_rfl) (by kernel_rfl) (by exact ⟨env_cells HLn.out.drew.ev, env_cells HLn.out.drew.rv⟩) ?_; simp only [Ord.ordOps, List.filterMap_cons, List.filterMap_nil, List.getElem?_toArray, List.getElem?_cons_succ, List.getElem?_cons_zero, Option.map_some]; repeat (first | (refine Ord.wpOrd_skip ?_ ?_; (focus (go_simp; (try (intro h; cases h)); done)); simp only [Act.put, List.setIfInBounds_toArray, List.set_cons_zero, List.set_cons_succ]) | (refine Ord.wpOrd_take (v := ?_) ?_ ?_ ?_; rotate_left; (focus (go_simp; done)); (focus (intro w' hSw; (try dsimp only at hSw); go_simp; (try with_reducible rfl); done)); simp only [Act.put, List.setIfInBounds_toArray, List.set_cons_zero, List.set_cons_succ])))
                    (refine Ord.wpOrd_call ?_ (fun K hK => ?_); (focus (go_simp; done)); go_simp)
                    go_at_call 35
                    refine (own_any ⟨e'.hops ++ [x], e'.limit, e'.inner⟩ (.slice Ax (e'.hops.length + 1) cx) _ HLn.out.drew.ein Hn8.out).mono ?_
                    rintro r wa ⟨va, rfl, hoa, hba⟩
                    have hBa := below_go hba (Below.refl wn.heap.size wn).drew
                    have Hoa := Lib.hid hoa
                    clear hoa hba
                    (refine hK _ _ (by exact ⟨env_cells (HLn.out.below hBa).ev, env_cells (HLn.out.below hBa).rv⟩) ?_; clear hK K; (try simp only [Act.put, List.setIfInBounds_toArray, List.set_cons_zero, List.set_cons_succ]); repeat (first | (refine Ord.wpOrd_skip ?_ ?_; (focus (go_simp; (try (intro h; cases h)); done)); simp only [Act.put, List.setIfInBounds_toArray, List.set_cons_zero, List.set_cons_succ]) | (refine Ord.wpOrd_take (v := ?_) ?_ ?_ ?_; rotate_left; (focus (go_simp; done)); (focus (intro w' hSw; (try dsimp only at hSw); go_simp; (try with_reducible rfl); done)); simp only [Act.put, List.setIfInBounds_toArray, List.set_cons_zero, List.set_cons_succ])))
                    (refine Ord.wpOrd_call ?_ (fun K hK => ?_); (focus (go_simp; done)); go_simp)
                    go_at_call 42
                    refine (same_any (e'.hops ++ [x]) e'.limit (str e'.inner) va (.slice A7 (e'.hops.length + 1) c7) _ (Rd.of_own Hoa.out) (Rd.of_own (HLn.out.below hBa).own)).mono ?_
                    rintro r wb ⟨rfl, hbb⟩
                    have hBb := below_go hbb hBa
                    clear hbb
                    (refine hK _ _ (by exact ⟨env_cells (HLn.out.below hBb).ev, env_cells (HLn.out.below hBb).rv⟩) ?_; clear hK K; (try simp only [Act.put, List.setIfInBounds_toArray, List.set_cons_zero, List.set_cons_succ]); repeat (first | (refine Ord.wpOrd_skip ?_ ?_; (focus (go_simp; (try (intro h; cases h)); done)); simp only [Act.put, List.setIfInBounds_toArray, List.set_cons_zero, List.set_cons_succ]) | (refine Ord.wpOrd_take (v := ?_) ?_ ?_ ?_; rotate_left; (focus (go_simp; done)); (focus (intro w' hSw; (try dsimp only at hSw); go_simp; (try with_reducible rfl); done)); simp only [Act.put, List.setIfInBounds_toArray, List.set_cons_zero, List.set_cons_succ])))
                    (refine Ord.wpOrd_call ?_ (fun K hK => ?_); (focus (go_simp; done)); go_simp)
                    go_at_call 37
                    refine (right_any ⟨e'.hops ++ [x], e'.limit, e'.inner⟩ (.slice Ax (e'.hops.length + 1) cx) _ (HLn.out.below hBb).ein).mono ?_
                    rintro r wd ⟨rfl, hbd⟩
                    rw [Hrg.out]
                    have hBd := below_go hbd hBb
                    clear hbd
                    (refine hK _ _ (by exact ⟨env_cells (HLn.out.below hBd).ev, env_cells (HLn.out.below hBd).rv⟩) ?_; clear hK K; (try simp only [Act.put, List.setIfInBounds_toArray, List.set_cons_zero, List.set_cons_succ]); repeat (first | (refine Ord.wpOrd_skip ?_ ?_; (focus (go_simp; (try (intro h; cases h)); done)); simp only [Act.put, List.setIfInBounds_toArray, List.set_cons_zero, List.set_cons_succ]) | (refine Ord.wpOrd_take (v := ?_) ?_ ?_ ?_; rotate_left; (focus (go_simp; done)); (focus (intro w' hSw; (try dsimp only at hSw); go_simp; (try with_reducible rfl); done)); simp only [Act.put, List.setIfInBounds_toArray, List.set_cons_zero, List.set_cons_succ])))
                    refine Ord.wpOrd_nil ?_
                    go_wp2_with fail
                    exact ⟨⟨i + 1, ⟨e'.hops ++ [x], e'.limit, e'.inner⟩, _, _, by go_num, by omega, by omega, Hn41.out, HLn.out.below hBd⟩, by simp only [intOf]; omega⟩
end Go.Proofs.Ytcjabfdjngekfaa.Rel
