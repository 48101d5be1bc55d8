/- VolumeSizes' walk. -/
import Derived.Test.YtcjabfdjngekfaaVolOne
import Derived.Test.YtcjabfdjngekfaaOrdTS
import Derived.Deep.CutRange
set_option linter.unusedVariables false
set_option linter.unusedSimpArgs false
namespace Go.Proofs.Ytcjabfdjngekfaa.Vol
open Go.RowKit Go.Proofs.Ytcjabfdjngekfaa.Wd

theorem two_range {W : World} {g : Nat} {A B : List Value} {t : TypeId} (hA : A.length = 37) (hg : W.heap[g]? = some (.cells (A ++ B).toArray t (0, 0))) : W.rangeAt g 0 A ∧ W.rangeAt g 37 B := by
  constructor
  · intro j u hu
    rw [Nat.zero_add, blk_cell hg j]
    simp only [List.getElem?_toArray]
    rw [List.getElem?_append_left (List.getElem?_eq_some_iff.1 hu).1]; exact hu
  · intro j u hu
    rw [blk_cell hg (37 + j)]
    simp only [List.getElem?_toArray]
    rw [List.getElem?_append_right (by omega), hA, Nat.add_sub_cancel_left]; exact hu
theorem i64_and16 (n : Int) : 0 ≤ bits .and .i64 n 65535 ∧ bits .and .i64 n 65535 ≤ 65535 := by
  have h : (BitVec.ofInt 64 65535).toNat = 2 ^ 16 - 1 := by decide
  have key : (BitVec.ofInt 64 n &&& BitVec.ofInt 64 65535).toNat = (n % ((2 ^ 64 : Nat) : Int)).toNat % 2 ^ 16 := by
    rw [BitVec.toNat_and, BitVec.toNat_ofInt, h, Nat.and_two_pow_sub_one_eq_mod]
  have e : bits .and .i64 n 65535 = IntKind.i64.wrap ((BitVec.ofInt 64 n &&& BitVec.ofInt 64 65535).toNat : Nat) := rfl
  rw [e, key, IntKind.wrap_i64]
  omega
theorem eqlSum44 (w : World) (xs ys : List UInt8) (hx : xs.length = 32) (hy : ys.length = 32) : (binOp .eql 44 (.agg (bs xs).toArray) (.agg (bs ys).toArray)).run Try.prog w = .ok (.bool (xs == ys)) w := Sha.eqlSum w xs ys hx hy
set_option maxRecDepth 100000 in
set_option maxHeartbeats 4000000 in
theorem VolumeSizes_any (lg dt : Int) (a b : V) (va vb : Value) (w : World) (hl : I64 lg) (hd : I64 dt) (ha : VIn w a va) (hb : VIn w b vb) :
    Calls Try.prog 4 #[.int .i64 lg, .int .i64 dt, .agg (vcells a va ++ vcells b vb).toArray] w fun e w' => e = .returned (.bool true) ∧ Below w.heap.size w w' := by
  have hAl : (vcells a va).length = 37 := vcells_length _ _ ha.bd
  obtain ⟨W0, hW0⟩ : ∃ W, W = w.alloc (.cells (vcells a va ++ vcells b vb).toArray 47) := ⟨_, rfl⟩
  have hg0 : W0.heap[w.heap.size]? = some (.cells (vcells a va ++ vcells b vb).toArray 47 (0, 0)) := by rw [hW0]; exact heap_alloc_new _ _
  have hB0 : Below w.heap.size w W0 := by rw [hW0]; exact (Below.refl _ _).alloc (Nat.le_refl _) _
  obtain ⟨s, hs⟩ : ∃ s, s = shardN lg dt := ⟨_, rfl⟩
  have hSh := fun W => shard_any lg dt hl hd W
  rw [← hs] at hSh
  have HSh := Lib.hid hSh
  have Hs := Lib.hid hs
  have HW0 := Lib.hid hW0
  have Hg0 := Lib.hid hg0
  have Ha := Lib.hid ha
  have Hb := Lib.hid hb
  obtain ⟨LL, hLL⟩ : ∃ L, L = vcells a va ++ vcells b vb := ⟨_, rfl⟩
  rw [← hLL] at HW0 ⊢
  have HLL := Lib.hid hLL
  clear hSh hs hW0 hg0 ha hb hLL hAl
  obtain ⟨l1, l2⟩ := hl
  obtain ⟨d1, d2⟩ := hd
  go_enter Try.func4, Try.ntmps4
  go_upto_region 2 with fail
  rw [← HW0.out]
  go_cut [16] from 11 to 15 (fun s16 wx => s16 = .bool (decide (0 ≤ lg) && decide (1 ≤ dt)) ∧ wx = W0)
  case first =>
    by_cases g0 : 0 ≤ lg
    · go_wp2_with fail
      go_meet
      exact ⟨by simp [g0], rfl⟩
    · have g0' : decide (0 ≤ lg) = false := decide_eq_false g0
      go_wp2_with fail
      go_meet
      exact ⟨by rw [g0']; rfl, rfl⟩
  case rest =>
    obtain ⟨rfl, hw⟩ := hcut
    rw [hw]
    clear hw
    generalize hbb : (decide (0 ≤ lg) && decide (1 ≤ dt)) = bb
    have Hbb := Lib.hid hbb
    clear hbb
    go_upto_if 16 with fail
    go_cut [7] from 17 to 29 (fun s7 wx => s7 = .int .i64 s ∧ wx = W0)
    case first =>
      cases bb with
      | false =>
        have hs0 : s = 0 := by
          rw [Hs.out]; unfold shardN; rw [if_pos]
          have := Hbb.out
          simp only [Bool.and_eq_false_iff, decide_eq_false_iff_not] at this
          omega
        subst hs0
        go_wp2_with fail
        go_meet
        exact ⟨rfl, rfl⟩
      | true =>
        have h1 : 0 ≤ lg ∧ 1 ≤ dt := by simpa using Hbb.out
        obtain ⟨h1, h2⟩ := h1
        have q1 : 0 ≤ lg / dt := Int.ediv_nonneg h1 (by omega)
        have q2 : lg / dt ≤ lg := Int.ediv_le_self _ h1
        have q3 : lg.tdiv dt = lg / dt := Int.tdiv_eq_ediv_of_nonneg h1
        have q5 : lg.tmod dt = lg % dt := Int.tmod_eq_emod_of_nonneg h1
        have q6 := Int.emod_nonneg lg (show dt ≠ 0 by omega)
        have q7 := Int.emod_lt_of_pos lg (show 0 < dt by omega)
        have q8 : ¬ dt = 0 := by omega
        have q9 : (dt == 0) = false := by simpa using q8
        have hde := Int.mul_ediv_add_emod lg dt
        have hsv : s = if 0 < lg % dt ∨ lg = 0 then lg / dt + 1 else lg / dt := by
          rw [Hs.out]; unfold shardN; rw [if_neg (by omega)]
          by_cases h0 : lg = 0
          · subst h0; simp
          · rw [if_neg h0]
            by_cases hr : 0 < lg % dt
            · rw [if_pos (.inl hr)]
              congr 1
              exact ((Int.ediv_emod_unique (a := lg - 1) (b := dt) (q := lg / dt) (r := lg % dt - 1) (by omega)).2 ⟨by omega, by omega, by omega⟩).1
            · rw [if_neg (by omega)]
              have hm : dt * (lg / dt - 1) = dt * (lg / dt) - dt := by rw [Int.mul_sub, Int.mul_one]
              have := ((Int.ediv_emod_unique (a := lg - 1) (b := dt) (q := lg / dt - 1) (r := dt - 1) (by omega)).2 ⟨by rw [hm]; omega, by omega, by omega⟩).1
              omega
        obtain ⟨q, hq⟩ : ∃ q, q = lg / dt := ⟨_, rfl⟩
        obtain ⟨r, hr⟩ : ∃ r, r = lg % dt := ⟨_, rfl⟩
        rw [← hq] at q1 q2 q3 hsv hde
        rw [← hr] at q5 q6 q7 hsv hde
        have q10 : IntKind.i64.wrap q = q := by rw [IntKind.wrap_i64]; omega
        have q11 : lg / dt = q := hq.symm
        have q12 : lg % dt = r := hr.symm
        have q13 : IntKind.i64.wrap r = r := by rw [IntKind.wrap_i64]; omega
        clear hq hr
        have hmul : 1 * q ≤ dt * q := Int.mul_le_mul_of_nonneg_right h2 q1
        rw [Int.one_mul] at hmul
        by_cases hr0 : 0 < r
        · have hq14 : IntKind.i64.wrap (q + 1) = q + 1 := by
            rw [IntKind.wrap_i64]
            omega
          rw [if_pos (.inl hr0)] at hsv
          have Hsv := Lib.hid hsv
          clear hsv hde hmul
          go_wp2_with fail
          go_meet
          exact ⟨by rw [Hsv.out], rfl⟩
        · have hr0' : decide (0 < r) = false := decide_eq_false hr0
          by_cases h0 : lg = 0
          · have h0' : (lg == 0) = true := by simpa using h0
            have hq0 : q = 0 := by omega
            have hr1 : r = 0 := by omega
            rw [if_pos (.inr h0)] at hsv
            have Hsv := Lib.hid hsv
            have hq14 : IntKind.i64.wrap (q + 1) = q + 1 := by
              rw [IntKind.wrap_i64]
              omega
            clear hsv hde hmul h0 hq0 hr1
            go_wp2_with fail
            go_meet
            exact ⟨by rw [Hsv.out], rfl⟩
          · have h0' : (lg == 0) = false := by simpa using h0
            rw [if_neg (by omega)] at hsv
            have Hsv := Lib.hid hsv
            clear hsv hde hmul h0
            go_wp2_with fail
            go_meet
            exact ⟨by rw [Hsv.out], rfl⟩
    case rest =>
      obtain ⟨rfl, hw⟩ := hcut
      rw [hw]
      clear hw
      have hR : ∀ W, Below W0.heap.size W0 W → W.rangeAt w.heap.size 0 (vcells a va) ∧ W.rangeAt w.heap.size 37 (vcells b vb) := fun W hW => two_range (vcells_length _ _ Ha.out.bd) (blk_below Hg0.out hW)
      have HR := Lib.hid hR
      have Hia : Hid ((Try.prog.info? 46).map (·.size) = some (vcells a va).length) := by show _ = _; rw [vcells_length _ _ Ha.out.bd]; exact infoVol
      have Hib : Hid ((Try.prog.info? 46).map (·.size) = some (vcells b vb).length) := by show _ = _; rw [vcells_length _ _ Hb.out.bd]; exact infoVol
      obtain ⟨A, hA⟩ : ∃ A, A = vcells a va := ⟨_, rfl⟩
      obtain ⟨B, hB⟩ : ∃ B, B = vcells b vb := ⟨_, rfl⟩
      rw [← hA] at HR Hia
      rw [← hB] at HR Hib
      have HA := Lib.hid hA
      have HB := Lib.hid hB
      have HA1 : Hid (∀ u ∈ A, u.oneCell' = true) := by
        show _; obtain ⟨_, _, h, -⟩ := Ha.out.pc.slice_; rw [hA, h]; exact vcells_one _ _ rfl
      have HB1 : Hid (∀ u ∈ B, u.oneCell' = true) := by
        show _; obtain ⟨_, _, h, -⟩ := Hb.out.pc.slice_; rw [hB, h]; exact vcells_one _ _ rfl
      have HAl : Hid (A.length = zcells.length) := by show _; rw [hA]; exact (vcells_length _ _ Ha.out.bd)
      have HBl : Hid (B.length = zcells.length) := by show _; rw [hB]; exact (vcells_length _ _ Hb.out.bd)
      clear hR hA hB
      have hs0 := HR.out W0.drew (Below.refl _ _).drew
      go_upto_region 6 with fail
      go_cut [8, 9] from 30 to 33 (fun s8 s9 wx => ∃ ga gb : Nat, s8 = .pointer (some ⟨ga, 0, none⟩) ∧ s9 = .pointer (some ⟨gb, 0, none⟩) ∧ wx.heap[ga]? = some (.cells A.toArray 46 (0, 0)) ∧ wx.heap[gb]? = some (.cells B.toArray 46 (0, 0)) ∧ Below W0.heap.size W0 wx)
      case first =>
        (refine Ord.wp_region_tree (Ord.OT.of [(false, 0), (false, 1), (false, 2), (false, 3)] (Ord.OT.two 4 (Ord.OT.of [(true, 5), (true, 6), (true, 7)] Ord.OT.nil) 5 (Ord.OT.of [(true, 4), (true, 6), (true, 7)] Ord.OT.nil))) (fun w' => w'.rangeAt w.heap.size 0 A ∧ w'.rangeAt w.heap.size 37 B) (by kernel_rfl) (by kernel_rfl) (by kernel_rfl) (by kernel_rfl) (by exact hs0) ?_; simp only [Ord.OT.of, Ord.OT.opers, List.getElem?_toArray, List.getElem?_cons_succ, List.getElem?_cons_zero]; repeat (first | (refine Ord.wpT_skip ?_ ?_; (focus (go_simp; (try (intro h; cases h)); done)); simp only [Act.put, List.setIfInBounds_toArray, List.set_cons_zero, List.set_cons_succ]) | (refine Ord.wpT_take (v := ?_) ?_ ?_ ?_; rotate_left; (focus (go_simp; done)); (focus (intro w' hSw; (try dsimp only at hSw); go_simp; (try with_reducible rfl); done)); simp only [Act.put, List.setIfInBounds_toArray, List.set_cons_zero, List.set_cons_succ])))
        refine Ord.wpT_load_mid ?_ 46 _ rfl w.heap.size 0 rfl A _ (fun w h => h.1) Try.underlying46 rfl Hia.out ?_
        · go_simp
        ((try simp only [Act.put, List.setIfInBounds_toArray, List.set_cons_zero, List.set_cons_succ]); repeat (first | (refine Ord.wpT_skip ?_ ?_; (focus (go_simp; (try (intro h; cases h)); done)); simp only [Act.put, List.setIfInBounds_toArray, List.set_cons_zero, List.set_cons_succ]) | (refine Ord.wpT_take (v := ?_) ?_ ?_ ?_; rotate_left; (focus (go_simp; done)); (focus (intro w' hSw; (try dsimp only at hSw); go_simp; (try with_reducible rfl); done)); simp only [Act.put, List.setIfInBounds_toArray, List.set_cons_zero, List.set_cons_succ])))
        refine Ord.wpT_load_mid ?_ 46 _ rfl w.heap.size 37 rfl B _ (fun w h => h.2) Try.underlying46 rfl Hib.out ?_
        · go_simp
        ((try simp only [Act.put, List.setIfInBounds_toArray, List.set_cons_zero, List.set_cons_succ]); repeat (first | (refine Ord.wpT_skip ?_ ?_; (focus (go_simp; (try (intro h; cases h)); done)); simp only [Act.put, List.setIfInBounds_toArray, List.set_cons_zero, List.set_cons_succ]) | (refine Ord.wpT_take (v := ?_) ?_ ?_ ?_; rotate_left; (focus (go_simp; done)); (focus (intro w' hSw; (try dsimp only at hSw); go_simp; (try with_reducible rfl); done)); simp only [Act.put, List.setIfInBounds_toArray, List.set_cons_zero, List.set_cons_succ])))
        refine Ord.wpT_two ?_ ?_
        · (refine Ord.wpT_call ?_ (fun K hK => ?_); (focus (go_simp; done)); go_simp)
          (refine hK _ _ (by exact HR.out _ ((Below.refl _ _).alloc (Nat.le_refl _) _).drew) ?_; clear hK K; (try simp only [Act.put, List.setIfInBounds_toArray, List.set_cons_zero, List.set_cons_succ]); repeat (first | (refine Ord.wpT_skip ?_ ?_; (focus (go_simp; (try (intro h; cases h)); done)); simp only [Act.put, List.setIfInBounds_toArray, List.set_cons_zero, List.set_cons_succ]) | (refine Ord.wpT_take (v := ?_) ?_ ?_ ?_; rotate_left; (focus (go_simp; done)); (focus (intro w' hSw; (try dsimp only at hSw); go_simp; (try with_reducible rfl); done)); simp only [Act.put, List.setIfInBounds_toArray, List.set_cons_zero, List.set_cons_succ])))
          (refine Ord.wpT_call ?_ (fun K hK => ?_); (focus (go_simp; done)); go_simp)
          (refine hK _ _ (by exact HR.out _ (((Below.refl _ _).alloc (Nat.le_refl _) _).alloc (by simp) _).drew) ?_; clear hK K; (try simp only [Act.put, List.setIfInBounds_toArray, List.set_cons_zero, List.set_cons_succ]); repeat (first | (refine Ord.wpT_skip ?_ ?_; (focus (go_simp; (try (intro h; cases h)); done)); simp only [Act.put, List.setIfInBounds_toArray, List.set_cons_zero, List.set_cons_succ]) | (refine Ord.wpT_take (v := ?_) ?_ ?_ ?_; rotate_left; (focus (go_simp; done)); (focus (intro w' hSw; (try dsimp only at hSw); go_simp; (try with_reducible rfl); done)); simp only [Act.put, List.setIfInBounds_toArray, List.set_cons_zero, List.set_cons_succ])))
          have hW : Below W0.heap.size W0 ((W0.alloc (.cells zcells.toArray 46)).alloc (.cells zcells.toArray 46)).drew := (below_two _ _ _).drew
          have hwa : ((W0.alloc (.cells zcells.toArray 46)).alloc (.cells zcells.toArray 46)).drew.heap[W0.heap.size]? = some (.cells zcells.toArray 46 (0, 0)) := blk_alloc (heap_alloc_new _ _) _
          have hwb : ((W0.alloc (.cells zcells.toArray 46)).alloc (.cells zcells.toArray 46)).drew.heap[W0.heap.size + 1]? = some (.cells zcells.toArray 46 (0, 0)) := alloc_at _ _ _
          refine Ord.wpT_store_all ?_ 46 _ _ rfl (W0.heap.size) A zcells rfl rfl HA1.out HAl.out Hia.out 46 (by exact hwa) (fun w1 hw1 hg1 => ?_)
          · go_simp
          have h2 := fun w2 => Ord.two_laid (w2 := w2) (B := B) hW (show W0.heap.size ≤ W0.heap.size by omega) (show W0.heap.size ≤ W0.heap.size + 1 by omega) (by omega) hwb hw1.out hg1
          refine ⟨HR.out _ (h2 w1).1, ?_⟩
          ((try simp only [Act.put, List.setIfInBounds_toArray, List.set_cons_zero, List.set_cons_succ]); repeat (first | (refine Ord.wpT_skip ?_ ?_; (focus (go_simp; (try (intro h; cases h)); done)); simp only [Act.put, List.setIfInBounds_toArray, List.set_cons_zero, List.set_cons_succ]) | (refine Ord.wpT_take (v := ?_) ?_ ?_ ?_; rotate_left; (focus (go_simp; done)); (focus (intro w' hSw; (try dsimp only at hSw); go_simp; (try with_reducible rfl); done)); simp only [Act.put, List.setIfInBounds_toArray, List.set_cons_zero, List.set_cons_succ])))
          refine Ord.wpT_store_all ?_ 46 _ _ rfl (W0.heap.size + 1) B zcells rfl rfl HB1.out HBl.out Hib.out 46 (h2 w1).2.1 (fun w2 hw2 hg2 => ?_)
          · go_simp
          obtain ⟨h3, h4, h5⟩ := (h2 w2).2.2 hw2.out hg2
          refine ⟨HR.out _ h5, ?_⟩
          ((try simp only [Act.put, List.setIfInBounds_toArray, List.set_cons_zero, List.set_cons_succ]); repeat (first | (refine Ord.wpT_skip ?_ ?_; (focus (go_simp; (try (intro h; cases h)); done)); simp only [Act.put, List.setIfInBounds_toArray, List.set_cons_zero, List.set_cons_succ]) | (refine Ord.wpT_take (v := ?_) ?_ ?_ ?_; rotate_left; (focus (go_simp; done)); (focus (intro w' hSw; (try dsimp only at hSw); go_simp; (try with_reducible rfl); done)); simp only [Act.put, List.setIfInBounds_toArray, List.set_cons_zero, List.set_cons_succ])))
          refine Ord.wpT_nil ?_
          go_wp2_with fail
          go_meet
          exact ⟨_, _, rfl, rfl, h3, h4, h5⟩
        · (refine Ord.wpT_call ?_ (fun K hK => ?_); (focus (go_simp; done)); go_simp)
          (refine hK _ _ (by exact HR.out _ ((Below.refl _ _).alloc (Nat.le_refl _) _).drew) ?_; clear hK K; (try simp only [Act.put, List.setIfInBounds_toArray, List.set_cons_zero, List.set_cons_succ]); repeat (first | (refine Ord.wpT_skip ?_ ?_; (focus (go_simp; (try (intro h; cases h)); done)); simp only [Act.put, List.setIfInBounds_toArray, List.set_cons_zero, List.set_cons_succ]) | (refine Ord.wpT_take (v := ?_) ?_ ?_ ?_; rotate_left; (focus (go_simp; done)); (focus (intro w' hSw; (try dsimp only at hSw); go_simp; (try with_reducible rfl); done)); simp only [Act.put, List.setIfInBounds_toArray, List.set_cons_zero, List.set_cons_succ])))
          (refine Ord.wpT_call ?_ (fun K hK => ?_); (focus (go_simp; done)); go_simp)
          (refine hK _ _ (by exact HR.out _ (((Below.refl _ _).alloc (Nat.le_refl _) _).alloc (by simp) _).drew) ?_; clear hK K; (try simp only [Act.put, List.setIfInBounds_toArray, List.set_cons_zero, List.set_cons_succ]); repeat (first | (refine Ord.wpT_skip ?_ ?_; (focus (go_simp; (try (intro h; cases h)); done)); simp only [Act.put, List.setIfInBounds_toArray, List.set_cons_zero, List.set_cons_succ]) | (refine Ord.wpT_take (v := ?_) ?_ ?_ ?_; rotate_left; (focus (go_simp; done)); (focus (intro w' hSw; (try dsimp only at hSw); go_simp; (try with_reducible rfl); done)); simp only [Act.put, List.setIfInBounds_toArray, List.set_cons_zero, List.set_cons_succ])))
          have hW : Below W0.heap.size W0 ((W0.alloc (.cells zcells.toArray 46)).alloc (.cells zcells.toArray 46)).drew := (below_two _ _ _).drew
          have hwa : ((W0.alloc (.cells zcells.toArray 46)).alloc (.cells zcells.toArray 46)).drew.heap[W0.heap.size]? = some (.cells zcells.toArray 46 (0, 0)) := blk_alloc (heap_alloc_new _ _) _
          have hwb : ((W0.alloc (.cells zcells.toArray 46)).alloc (.cells zcells.toArray 46)).drew.heap[W0.heap.size + 1]? = some (.cells zcells.toArray 46 (0, 0)) := alloc_at _ _ _
          refine Ord.wpT_store_all ?_ 46 _ _ rfl (W0.heap.size + 1) A zcells rfl rfl HA1.out HAl.out Hia.out 46 (by exact hwb) (fun w1 hw1 hg1 => ?_)
          · go_simp
          have h2 := fun w2 => Ord.two_laid (w2 := w2) (B := B) hW (show W0.heap.size ≤ W0.heap.size + 1 by omega) (show W0.heap.size ≤ W0.heap.size by omega) (by omega) hwa hw1.out hg1
          refine ⟨HR.out _ (h2 w1).1, ?_⟩
          ((try simp only [Act.put, List.setIfInBounds_toArray, List.set_cons_zero, List.set_cons_succ]); repeat (first | (refine Ord.wpT_skip ?_ ?_; (focus (go_simp; (try (intro h; cases h)); done)); simp only [Act.put, List.setIfInBounds_toArray, List.set_cons_zero, List.set_cons_succ]) | (refine Ord.wpT_take (v := ?_) ?_ ?_ ?_; rotate_left; (focus (go_simp; done)); (focus (intro w' hSw; (try dsimp only at hSw); go_simp; (try with_reducible rfl); done)); simp only [Act.put, List.setIfInBounds_toArray, List.set_cons_zero, List.set_cons_succ])))
          refine Ord.wpT_store_all ?_ 46 _ _ rfl (W0.heap.size) B zcells rfl rfl HB1.out HBl.out Hib.out 46 (h2 w1).2.1 (fun w2 hw2 hg2 => ?_)
          · go_simp
          obtain ⟨h3, h4, h5⟩ := (h2 w2).2.2 hw2.out hg2
          refine ⟨HR.out _ h5, ?_⟩
          ((try simp only [Act.put, List.setIfInBounds_toArray, List.set_cons_zero, List.set_cons_succ]); repeat (first | (refine Ord.wpT_skip ?_ ?_; (focus (go_simp; (try (intro h; cases h)); done)); simp only [Act.put, List.setIfInBounds_toArray, List.set_cons_zero, List.set_cons_succ]) | (refine Ord.wpT_take (v := ?_) ?_ ?_ ?_; rotate_left; (focus (go_simp; done)); (focus (intro w' hSw; (try dsimp only at hSw); go_simp; (try with_reducible rfl); done)); simp only [Act.put, List.setIfInBounds_toArray, List.set_cons_zero, List.set_cons_succ])))
          refine Ord.wpT_nil ?_
          go_wp2_with fail
          go_meet
          exact ⟨_, _, rfl, rfl, h3, h4, h5⟩
      case rest =>
        obtain ⟨ga, gb, rfl, rfl, hga, hgb, hBc⟩ := hcut
        have hga' := hga
        have hgb' := hgb
        rw [HA.out] at hga'
        rw [HB.out] at hgb'
        obtain ⟨-, ca33, ca34, ca35, -⟩ := vol_cells Ha.out.bd hga'
        obtain ⟨-, cb33, cb34, cb35, -⟩ := vol_cells Hb.out.bd hgb'
        have hra : wc.rangeAt ga 0 (bs a.bd) := fun j u hu => by
          have hj := (List.getElem?_eq_some_iff.1 hu).1
          rw [Nat.zero_add, blk_cell hga' j]; simp only [List.getElem?_toArray]
          rw [vcells, List.getElem?_append_left hj]; exact hu
        have hrb : wc.rangeAt gb 0 (bs b.bd) := fun j u hu => by
          have hj := (List.getElem?_eq_some_iff.1 hu).1
          rw [Nat.zero_add, blk_cell hgb' j]; simp only [List.getElem?_toArray]
          rw [vcells, List.getElem?_append_left hj]; exact hu
        have hq := fun W => Sha.eqlSum W a.bd b.bd Ha.out.bd Hb.out.bd
        have Hka : Hid ((Try.prog.info? 44).map (·.size) = some (bs a.bd).length) := by show _ = _; rw [bs_length, Ha.out.bd]; exact Sha.infoSum
        have Hkb : Hid ((Try.prog.info? 44).map (·.size) = some (bs b.bd).length) := by show _ = _; rw [bs_length, Hb.out.bd]; exact Sha.infoSum
        have hkin : ∀ W, Below wc.heap.size wc W → Calls Try.prog 30 #[.agg A.toArray, .agg B.toArray] W fun e w' => e = .returned (.bool (kin a b)) ∧ Below W.heap.size W w' := by
          intro W hW; rw [HA.out, HB.out]
          have h1 : VIn wc a va := Ha.out.below (below_then hB0 hB0.size hBc)
          have h2 : VIn wc b vb := Hb.out.below (below_then hB0 hB0.size hBc)
          exact kin_any a b va vb W (h1.below hW) (h2.below hW)
        have hkin2 : ∀ W, Below wc.heap.size wc W → Calls Try.prog 30 #[.agg A.toArray, .agg A.toArray] W fun e w' => e = .returned (.bool true) ∧ Below W.heap.size W w' := by
          intro W hW; rw [HA.out, ← kin_self a]
          have h1 : VIn wc a va := Ha.out.below (below_then hB0 hB0.size hBc)
          exact kin_any a a va va W (h1.below hW) (h1.below hW)
        have hra2 : ∀ W, Below wc.heap.size wc W → W.rangeAt ga 0 A := fun W hW => range_all (blk_below hga hW)
        have hrb2 : ∀ W, Below wc.heap.size wc W → W.rangeAt gb 0 B := fun W hW => range_all (blk_below hgb hW)
        have Hkin := Lib.hid hkin
        have Hkin2 := Lib.hid hkin2
        have Hra2 := Lib.hid hra2
        have Hrb2 := Lib.hid hrb2
        have Hra := Lib.hid hra
        have Hrb := Lib.hid hrb
        have hBw : Below w.heap.size w wc := below_then hB0 hB0.size hBc
        clear hga' hgb' hkin hkin2 hra hrb hra2 hrb2 hga hgb
        obtain ⟨k, hk⟩ : ∃ k, k = kin a b := ⟨_, rfl⟩
        rw [← hk] at Hkin
        have Hk := Lib.hid hk
        clear hk
        obtain ⟨MA, hMA⟩ : ∃ M, M = bs a.bd := ⟨_, rfl⟩
        obtain ⟨MB, hMB⟩ : ∃ M, M = bs b.bd := ⟨_, rfl⟩
        rw [← hMA] at Hra Hka hq
        rw [← hMB] at Hrb Hkb hq
        clear hMA hMB
        go_upto_region 7 with fail
        obtain ⟨wz, hwz⟩ : ∃ W : World, W = wc := ⟨_, rfl⟩
        go_cut [10] from 34 to 59 (fun s10 wx => s10 = .bool k ∧ wx = wz)
        case first =>
          have hkd := Hk.out
          unfold kin at hkd
          clear Hkin Hkin2 Hra2 Hrb2 HSh
          cases e0 : (a.bd == b.bd) with
          | false =>
            have hkf : k = false := by rw [hkd, e0]; simp
            clear hkd
            subst hkf
            go_wp2_with (first
              | (refine wpList_load_mid rfl _ _ rfl ga 0 rfl MA _ Hra.out Try.underlying44 rfl Hka.out ?_)
              | (refine wpList_load_mid rfl _ _ rfl gb 0 rfl MB _ Hrb.out Try.underlying44 rfl Hkb.out ?_))
            go_meet
            exact ⟨rfl, hwz.symm⟩
          | true =>
            cases e1 : (a.dt == b.dt) with
            | false =>
              have hkf : k = false := by rw [hkd, e0, e1]; simp
              clear hkd
              subst hkf
              go_wp2_with (first
                | (refine wpList_load_mid rfl _ _ rfl ga 0 rfl MA _ Hra.out Try.underlying44 rfl Hka.out ?_)
                | (refine wpList_load_mid rfl _ _ rfl gb 0 rfl MB _ Hrb.out Try.underlying44 rfl Hkb.out ?_))
              go_meet
              exact ⟨rfl, hwz.symm⟩
            | true =>
              cases e2 : (a.mr == b.mr) with
              | false =>
                have hkf : k = false := by rw [hkd, e0, e1, e2]; simp
                clear hkd
                subst hkf
                go_wp2_with (first
                  | (refine wpList_load_mid rfl _ _ rfl ga 0 rfl MA _ Hra.out Try.underlying44 rfl Hka.out ?_)
                  | (refine wpList_load_mid rfl _ _ rfl gb 0 rfl MB _ Hrb.out Try.underlying44 rfl Hkb.out ?_))
                go_meet
                exact ⟨rfl, hwz.symm⟩
              | true =>
                cases e3 : (a.lg == b.lg) with
                | false =>
                  have hkf : k = false := by rw [hkd, e0, e1, e2, e3]; simp
                  clear hkd
                  subst hkf
                  go_wp2_with (first
                    | (refine wpList_load_mid rfl _ _ rfl ga 0 rfl MA _ Hra.out Try.underlying44 rfl Hka.out ?_)
                    | (refine wpList_load_mid rfl _ _ rfl gb 0 rfl MB _ Hrb.out Try.underlying44 rfl Hkb.out ?_))
                  go_meet
                  exact ⟨rfl, hwz.symm⟩
                | true =>
                  have hkf : k = true := by rw [hkd, e0, e1, e2, e3]; rfl
                  clear hkd
                  subst hkf
                  go_wp2_with (first
                    | (refine wpList_load_mid rfl _ _ rfl ga 0 rfl MA _ Hra.out Try.underlying44 rfl Hka.out ?_)
                    | (refine wpList_load_mid rfl _ _ rfl gb 0 rfl MB _ Hrb.out Try.underlying44 rfl Hkb.out ?_))
                  go_meet
                  exact ⟨rfl, hwz.symm⟩
        case rest =>
          obtain ⟨rfl, hw⟩ := hcut
          rw [hw, hwz]
          clear hw hwz
          clear hq ca33 ca34 ca35 cb33 cb34 cb35 Hra Hrb
          obtain ⟨y1, y2⟩ := i64_and16 lg
          obtain ⟨y, hy⟩ : ∃ y, bits .and .i64 lg 65535 = y := ⟨_, rfl⟩
          rw [hy] at y1 y2
          have hy3 : IntKind.i64.wrap (75 + y) = 75 + y := by rw [IntKind.wrap_i64]; omega
          go_wp2_with (first
            | (go_at_call 28; refine (HSh.out _).mono ?_; rintro e w8 ⟨rfl, rfl⟩)
            | (go_at_call 29; refine (size_any y y1 (by omega) _).mono ?_; rintro e w8 ⟨rfl, rfl⟩)
            | (refine Ord.wpList_load_g rfl _ _ rfl ga 0 rfl A _ (Hra2.out _ (by first | exact hb8 | exact Below.refl _ _)) Try.underlying46 rfl Hia.out ?_)
            | (refine Ord.wpList_load_g rfl _ _ rfl gb 0 rfl B _ (Hrb2.out _ (by first | exact hb8 | exact Below.refl _ _)) Try.underlying46 rfl Hib.out ?_)
            | (go_at_call 30; refine (Hkin.out _ (Below.refl _ _)).mono ?_; rintro e w7 ⟨rfl, hb8⟩)
            | (go_at_call 30; refine (Hkin2.out _ hb8).mono ?_; rintro e w9 ⟨rfl, hb9⟩; have hb10 := below_go hb9 hb8; clear hb9)
            | (go_at_call 31; refine (one21_any _).mono ?_; rintro e w11 ⟨rfl, hb11⟩; have hb12 := below_go hb11 hb10; clear hb11))
          go_ret
          exact ⟨rfl, below_go hb12 hBw⟩
end Go.Proofs.Ytcjabfdjngekfaa.Vol
