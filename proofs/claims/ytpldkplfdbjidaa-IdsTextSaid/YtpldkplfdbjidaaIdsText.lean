/- IdsText's walk: any id has the reference's text and comes back from it; any text is an id's or none. -/
import Derived.Test.YtpldkplfdbjidaaIdsOne
import Derived.Test.YtpldkplfdbjidaaTextR
import Derived.Test.YtpldkplfdbjidaaTextP
import Derived.Test.YtpldkplfdbjidaaRef03W
set_option linter.unusedVariables false
set_option linter.unusedSimpArgs false
namespace Go.Proofs.Ytpldkplfdbjidaa.Ids
open Go.RowKit Go.Proofs.Ytpldkplfdbjidaa.Wd Go.Proofs.Ytpldkplfdbjidaa.Use Go.Proofs.Ytpldkplfdbjidaa.Lay

theorem rng_below {W W1 : World} {g o : Nat} {X : List Value} (h : W.rangeAt g o X) (hb : Below W.heap.size W W1) : W1.rangeAt g o X := fun j u hu => cell_below hb (h j u hu)
theorem rng_grown {W W1 : World} {g o : Nat} {X : List Value} {row : Option Nat} (h : W.rangeAt g o X) (hg : W.grownBy W1 row) (hne : some g ≠ row) : W1.rangeAt g o X := fun j u hu => hg.cell (h j u hu) hne
set_option maxRecDepth 100000 in
set_option maxHeartbeats 8000000 in
theorem IdsText_walk (a b : Id) (ha : a.length = 32) (hb : b.length = 32) (s : List UInt8) (w : World) :
    Calls Try.prog 3 #[.agg (bs a).toArray, .agg (bs b).toArray, .string (str s)] w fun r w' => r = .returned (.bool true) ∧ Below w.heap.size w w' := by
  have hsz : (str s).size = s.length := str_size s
  obtain ⟨A, hA⟩ : ∃ A, A = bs a := ⟨_, rfl⟩
  obtain ⟨B, hB⟩ : ∃ B, B = bs b := ⟨_, rfl⟩
  have HA := Lib.hid hA
  have HB := Lib.hid hB
  have hAl : A.length = 32 := by rw [hA, bs_length, ha]
  have hBl : B.length = 32 := by rw [hB, bs_length, hb]
  rw [← hA, ← hB]
  obtain ⟨W0, hW0⟩ : ∃ W, W = (w.alloc (.cells A.toArray 23)).alloc (.cells B.toArray 23) := ⟨_, rfl⟩
  have hb0 : Below w.heap.size w W0 := by rw [hW0]; exact below_two _ _ _
  have hra : W0.rangeAt w.heap.size 0 A := by rw [hW0]; exact range_all (blk_alloc (heap_alloc_new _ _) _)
  have hrb : W0.rangeAt (w.heap.size + 1) 0 B := by rw [hW0]; exact range_all (alloc_at _ _ _)
  have hwl : w.heap.size + 2 ≤ W0.heap.size := by rw [hW0, alloc_size, alloc_size]; omega
  have HW0 := Lib.hid hW0
  have HiA := Lib.hid (show (Try.prog.info? 23).map (·.size) = some A.length by rw [hAl]; rfl)
  have HiB := Lib.hid (show (Try.prog.info? 23).map (·.size) = some B.length by rw [hBl]; rfl)
  by_cases hl : 200 < s.length
  · have hd : decide ((200 : Int) < (s.length : Int)) = true := decide_eq_true (by omega)
    clear hA hB hW0
    go_enter Try.func3, Try.ntmps3
    go_upto_region 1 with fail
    rw [← HW0.out]
    go_wp2_with fail
    go_ret
    exact ⟨rfl, hb0⟩
  have hd : decide ((200 : Int) < (s.length : Int)) = false := decide_eq_false (by omega)
  have Hte := Lib.hid (fun W => show Calls Try.prog 13 #[.agg A.toArray] W fun r w' => r = .returned (.string (str (tx a))) ∧ Below W.heap.size W w' from by rw [hA]; exact Text_any a ha W)
  have Hrt := Lib.hid (fun W => show Calls Try.prog 15 #[.agg A.toArray] W fun r w' => r = .returned (.string (str (tx a))) ∧ Below W.heap.size W w' from by rw [hA]; exact rText_any a ha W)
  have Hpa := Lib.hid (fun W => show Calls Try.prog 14 #[.string (str (tx a))] W fun r w' => r = .returned (.tuple #[.agg A.toArray, .int .i64 0]) ∧ Below W.heap.size W w' from by
    have h := Parse_any (tx a) (by rw [tx_len]; omega) W
    rw [parse_tx ha] at h
    rw [hA]; exact h)
  have hps := fun W => Parse_any s (by omega) W
  have hyl := parse_len s
  have Hls := Lib.hid (fun W => show Calls Try.prog 16 #[.agg A.toArray, .agg B.toArray] W fun r w' => r = .returned (.bool (lt a b)) ∧ Below W.heap.size W w' from by rw [hA, hB]; exact Less_any a b ha hb W)
  have Hrl := Lib.hid (fun W => show Calls Try.prog 17 #[.agg A.toArray, .agg B.toArray] W fun r w' => r = .returned (.bool (lt a b)) ∧ Below W.heap.size W w' from by rw [hA, hB]; exact rLess_any a b ha hb W)
  have hqa := fun W => Sha.eqlSum W a a ha ha
  rw [beq_self_eq_true, ← hA] at hqa
  have Hqa := Lib.hid hqa
  have htt : ((str (tx a)).toList == (str (tx a)).toList) = true := beq_self_eq_true _
  have hss : ((str s).toList == (str s).toList) = true := beq_self_eq_true _
  have hpr := parse_any s
  have Hte2 := Lib.hid (fun W => Text_any (parse s).1 hyl W)
  obtain ⟨y, hy⟩ : ∃ y, y = (parse s).1 := ⟨_, rfl⟩
  obtain ⟨f, hf⟩ : ∃ f, f = (parse s).2 := ⟨_, rfl⟩
  rw [← hy, ← hf] at hps hpr
  rw [← hy] at hyl Hte2
  have Hyl := Lib.hid hyl
  obtain ⟨Y, hY⟩ : ∃ Y, Y = bs y := ⟨_, rfl⟩
  have hYl : Y.length = 32 := by rw [hY, bs_length, hyl]
  have HiY := Lib.hid (show (Try.prog.info? 23).map (·.size) = some Y.length by rw [hYl]; rfl)
  have HY := Lib.hid hY
  rw [← hY] at hps Hte2
  have Hps := Lib.hid hps
  have Hpr := Lib.hid hpr
  have Hone := Lib.hid (fun W => one_any W)
  generalize str (tx a) = T at Hte Hrt Hpa htt
  generalize lt a b = ql at Hls Hrl
  generalize hS : str s = S at *
  have hS2 := Lib.hid hS
  have HA2 := Lib.hid ha
  clear hA hB hAl hBl ha hb hW0 hps hqa hpr hy hf hyl hY hYl hS
  go_enter Try.func3, Try.ntmps3
  go_upto_region 1 with fail
  rw [← HW0.out]
  go_upto_region 4 with (first
    | (refine wpList_load_mid rfl 23 _ rfl w.heap.size 0 rfl A _ hra Try.underlying23 rfl HiA.out ?_)
    | (go_at_call 13; refine (Hte.out _).mono ?_; rintro r w1 ⟨rfl, hb1⟩))
  have hra1 := rng_below hra hb1
  have hrb1 := rng_below hrb hb1
  have Hbw1 := Lib.hid (below_go hb1 hb0)
  have hwl1 : w.heap.size + 2 ≤ w1.heap.size := Nat.le_trans hwl hb1.size
  clear hra hrb hb0 hwl hb1
  go_upto_region 5 with (first
    | (go_at_call 14; refine (Hpa.out _).mono ?_; rintro r w2 ⟨rfl, hb2⟩; have hz2 := heap_alloc_new w2 (.cells #[.int .u8 0, .int .u8 0, .int .u8 0, .int .u8 0, .int .u8 0, .int .u8 0, .int .u8 0, .int .u8 0, .int .u8 0, .int .u8 0, .int .u8 0, .int .u8 0, .int .u8 0, .int .u8 0, .int .u8 0, .int .u8 0, .int .u8 0, .int .u8 0, .int .u8 0, .int .u8 0, .int .u8 0, .int .u8 0, .int .u8 0, .int .u8 0, .int .u8 0, .int .u8 0, .int .u8 0, .int .u8 0, .int .u8 0, .int .u8 0, .int .u8 0, .int .u8 0] 23); have hs2 := alloc_size w2 (.cells #[.int .u8 0, .int .u8 0, .int .u8 0, .int .u8 0, .int .u8 0, .int .u8 0, .int .u8 0, .int .u8 0, .int .u8 0, .int .u8 0, .int .u8 0, .int .u8 0, .int .u8 0, .int .u8 0, .int .u8 0, .int .u8 0, .int .u8 0, .int .u8 0, .int .u8 0, .int .u8 0, .int .u8 0, .int .u8 0, .int .u8 0, .int .u8 0, .int .u8 0, .int .u8 0, .int .u8 0, .int .u8 0, .int .u8 0, .int .u8 0, .int .u8 0, .int .u8 0] 23))
    | (refine Sha.wpList_store_sum rfl _ _ rfl w2.heap.size a (List.replicate 32 0) HA2.out rfl (by rw [← HA.out]; rfl) rfl hz2 ?_; intro w3 h3 hg3))
  have hba := below_one w2 (.cells #[.int .u8 0, .int .u8 0, .int .u8 0, .int .u8 0, .int .u8 0, .int .u8 0, .int .u8 0, .int .u8 0, .int .u8 0, .int .u8 0, .int .u8 0, .int .u8 0, .int .u8 0, .int .u8 0, .int .u8 0, .int .u8 0, .int .u8 0, .int .u8 0, .int .u8 0, .int .u8 0, .int .u8 0, .int .u8 0, .int .u8 0, .int .u8 0, .int .u8 0, .int .u8 0, .int .u8 0, .int .u8 0, .int .u8 0, .int .u8 0, .int .u8 0, .int .u8 0] 23)
  have hb12 := below_go hba hb2
  have hG8 : w.heap.size + 2 ≤ w2.heap.size := Nat.le_trans hwl1 hb2.size
  have hra3 := rng_grown (rng_below hra1 hb12) hg3 (by intro e; injection e with e; omega)
  have hrb3 := rng_grown (rng_below hrb1 hb12) hg3 (by intro e; injection e with e; omega)
  have hr83 : w3.rangeAt w2.heap.size 0 A := by rw [HA.out]; exact range_all h3
  have Hbw3 := Lib.hid ((below_go hb12 Hbw1.out).grown hg3 (Nat.le_trans Hbw1.out.size hb12.size) (fun k hk => by injection hk with hk; omega))
  have hwl3 : w2.heap.size < w3.heap.size := blk_lt h3
  generalize w2.heap.size = G8 at *
  clear hra1 hrb1 h3 hg3 hz2 hs2 hb2 hba hb12 hwl1 Hbw1
  go_upto_region 6 with (first
    | (go_at_call 14; refine (Hps.out _).mono ?_; rintro r w4 ⟨rfl, hb4⟩; have hz4 := heap_alloc_new w4 (.cells #[.int .u8 0, .int .u8 0, .int .u8 0, .int .u8 0, .int .u8 0, .int .u8 0, .int .u8 0, .int .u8 0, .int .u8 0, .int .u8 0, .int .u8 0, .int .u8 0, .int .u8 0, .int .u8 0, .int .u8 0, .int .u8 0, .int .u8 0, .int .u8 0, .int .u8 0, .int .u8 0, .int .u8 0, .int .u8 0, .int .u8 0, .int .u8 0, .int .u8 0, .int .u8 0, .int .u8 0, .int .u8 0, .int .u8 0, .int .u8 0, .int .u8 0, .int .u8 0] 23))
    | (refine Sha.wpList_store_sum rfl _ _ rfl w4.heap.size y (List.replicate 32 0) Hyl.out rfl (by rw [← HY.out]; rfl) rfl hz4 ?_; intro w5 h5 hg5))
  have hba := below_one w4 (.cells #[.int .u8 0, .int .u8 0, .int .u8 0, .int .u8 0, .int .u8 0, .int .u8 0, .int .u8 0, .int .u8 0, .int .u8 0, .int .u8 0, .int .u8 0, .int .u8 0, .int .u8 0, .int .u8 0, .int .u8 0, .int .u8 0, .int .u8 0, .int .u8 0, .int .u8 0, .int .u8 0, .int .u8 0, .int .u8 0, .int .u8 0, .int .u8 0, .int .u8 0, .int .u8 0, .int .u8 0, .int .u8 0, .int .u8 0, .int .u8 0, .int .u8 0, .int .u8 0] 23)
  have hb34 := below_go hba hb4
  have hG10 : w3.heap.size ≤ w4.heap.size := hb4.size
  have hra5 := rng_grown (rng_below hra3 hb34) hg5 (by intro e; injection e with e; omega)
  have hrb5 := rng_grown (rng_below hrb3 hb34) hg5 (by intro e; injection e with e; omega)
  have hr85 := rng_grown (rng_below hr83 hb34) hg5 (by intro e; injection e with e; omega)
  have hr05 : w5.rangeAt w4.heap.size 0 Y := by rw [HY.out]; exact range_all h5
  have Hbw5 := Lib.hid ((below_go hb34 Hbw3.out).grown hg5 (Nat.le_trans Hbw3.out.size hb34.size) (fun k hk => by injection hk with hk; omega))
  generalize w4.heap.size = G10 at *
  clear hra3 hrb3 hr83 h5 hg5 hz4 hb4 hba hb34 Hbw3 hwl3 hG10 hG8
  cases hql : (ql == ql) with
  | false => rw [beq_self_eq_true] at hql; cases hql
  | true =>
  rcases Hpr.out with ⟨h0, htx⟩ | ⟨h0, hy0⟩
  · have hte2 := Hte2.out
    rw [htx] at hte2
    simp only [hS2.out] at hte2
    have Hte3 := Lib.hid hte2
    clear hte2 Hte2 htx
    subst h0
    rw [show ((0 : Nat) : Int) = 0 from rfl]
    (refine Ord.wp_region_ord [(false, 0), (false, 1), (true, 2), (false, 3), (false, 4), (false, 5), (false, 6), (false, 7), (false, 8), (false, 9), (false, 10), (false, 11), (false, 12), (false, 13), (false, 14), (false, 15), (false, 17), (false, 18), (true, 16), (true, 19), (false, 20), (false, 21), (false, 22), (false, 23), (false, 24), (false, 25), (false, 26), (false, 28), (true, 27), (false, 29), (false, 30), (false, 31), (false, 32), (false, 33), (false, 34), (false, 35), (false, 36), (false, 37), (false, 38), (false, 39), (false, 40), (false, 41), (true, 42), (false, 43), (false, 44)] (fun W => W.rangeAt w.heap.size 0 A ∧ W.rangeAt (w.heap.size + 1) 0 B ∧ W.rangeAt G8 0 A ∧ W.rangeAt G10 0 Y) (by kernel_rfl) (by kernel_rfl) (by kernel_rfl) (by kernel_rfl) (by exact ⟨hra5, hrb5, hr85, hr05⟩) ?_; simp only [Ord.ordOps, List.filterMap_cons, List.filterMap_nil, List.getElem?_toArray, List.getElem?_cons_succ, List.getElem?_cons_zero, Option.map_some]; repeat (first | (refine Ord.wpOrd_skip ?_ ?_; (focus (go_simp; (try (intro h; cases h)); done)); simp only [Act.put, List.setIfInBounds_toArray, List.set_cons_zero, List.set_cons_succ]) | (refine Ord.wpOrd_take (v := ?_) ?_ ?_ ?_; rotate_left; (focus (go_simp; done)); (focus (intro w' hSw; (try dsimp only at hSw); go_simp; (try with_reducible rfl); done)); simp only [Act.put, List.setIfInBounds_toArray, List.set_cons_zero, List.set_cons_succ])))
    refine Ord.wpOrd_load_mid ?_ 23 _ rfl w.heap.size 0 rfl A _ (fun w h => h.1) Try.underlying23 rfl HiA.out ?_
    focus (go_simp; done)
    ((try simp only [Act.put, List.setIfInBounds_toArray, List.set_cons_zero, List.set_cons_succ]); repeat (first | (refine Ord.wpOrd_skip ?_ ?_; (focus (go_simp; (try (intro h; cases h)); done)); simp only [Act.put, List.setIfInBounds_toArray, List.set_cons_zero, List.set_cons_succ]) | (refine Ord.wpOrd_take (v := ?_) ?_ ?_ ?_; rotate_left; (focus (go_simp; done)); (focus (intro w' hSw; (try dsimp only at hSw); go_simp; (try with_reducible rfl); done)); simp only [Act.put, List.setIfInBounds_toArray, List.set_cons_zero, List.set_cons_succ])))
    (refine Ord.wpOrd_call ?_ (fun K hK => ?_); (focus (go_simp; done)); go_simp)
    go_at_call 15
    refine (Hrt.out _).mono ?_
    rintro r w6 ⟨rfl, hb6⟩
    have hb6' := below_go hb6 (Below.refl w5.heap.size w5).drew
    (refine hK _ _ (by exact ⟨rng_below hra5 hb6', rng_below hrb5 hb6', rng_below hr85 hb6', rng_below hr05 hb6'⟩) ?_; clear hK K; (try simp only [Act.put, List.setIfInBounds_toArray, List.set_cons_zero, List.set_cons_succ]); repeat (first | (refine Ord.wpOrd_skip ?_ ?_; (focus (go_simp; (try (intro h; cases h)); done)); simp only [Act.put, List.setIfInBounds_toArray, List.set_cons_zero, List.set_cons_succ]) | (refine Ord.wpOrd_take (v := ?_) ?_ ?_ ?_; rotate_left; (focus (go_simp; done)); (focus (intro w' hSw; (try dsimp only at hSw); go_simp; (try with_reducible rfl); done)); simp only [Act.put, List.setIfInBounds_toArray, List.set_cons_zero, List.set_cons_succ])))
    refine Ord.wpOrd_load_mid ?_ 23 _ rfl G8 0 rfl A _ (fun w h => h.2.2.1) Try.underlying23 rfl HiA.out ?_
    focus (go_simp; done)
    ((try simp only [Act.put, List.setIfInBounds_toArray, List.set_cons_zero, List.set_cons_succ]); repeat (first | (refine Ord.wpOrd_skip ?_ ?_; (focus (go_simp; (try (intro h; cases h)); done)); simp only [Act.put, List.setIfInBounds_toArray, List.set_cons_zero, List.set_cons_succ]) | (refine Ord.wpOrd_take (v := ?_) ?_ ?_ ?_; rotate_left; (focus (go_simp; done)); (focus (intro w' hSw; (try dsimp only at hSw); go_simp; (try with_reducible rfl); done)); simp only [Act.put, List.setIfInBounds_toArray, List.set_cons_zero, List.set_cons_succ])))
    refine Ord.wpOrd_load_mid ?_ 23 _ rfl w.heap.size 0 rfl A _ (fun w h => h.1) Try.underlying23 rfl HiA.out ?_
    focus (go_simp; done)
    ((try simp only [Act.put, List.setIfInBounds_toArray, List.set_cons_zero, List.set_cons_succ]); repeat (first | (refine Ord.wpOrd_skip ?_ ?_; (focus (go_simp; (try (intro h; cases h)); done)); simp only [Act.put, List.setIfInBounds_toArray, List.set_cons_zero, List.set_cons_succ]) | (refine Ord.wpOrd_take (v := ?_) ?_ ?_ ?_; rotate_left; (focus (go_simp; done)); (focus (intro w' hSw; (try dsimp only at hSw); go_simp; (try with_reducible rfl); done)); simp only [Act.put, List.setIfInBounds_toArray, List.set_cons_zero, List.set_cons_succ])))
    refine Ord.wpOrd_bin ?_ .eql 23 _ _ _ rfl (.agg A.toArray) (.agg A.toArray) (.bool true) rfl rfl (fun w' => run_eqGuard_agg w' _ _ _ _ _ _ (by kernel_rfl)) Hqa.out ?_
    focus (go_simp; done)
    ((try simp only [Act.put, List.setIfInBounds_toArray, List.set_cons_zero, List.set_cons_succ]); repeat (first | (refine Ord.wpOrd_skip ?_ ?_; (focus (go_simp; (try (intro h; cases h)); done)); simp only [Act.put, List.setIfInBounds_toArray, List.set_cons_zero, List.set_cons_succ]) | (refine Ord.wpOrd_take (v := ?_) ?_ ?_ ?_; rotate_left; (focus (go_simp; done)); (focus (intro w' hSw; (try dsimp only at hSw); go_simp; (try with_reducible rfl); done)); simp only [Act.put, List.setIfInBounds_toArray, List.set_cons_zero, List.set_cons_succ])))
    refine Ord.wpOrd_load_mid ?_ 23 _ rfl w.heap.size 0 rfl A _ (fun w h => h.1) Try.underlying23 rfl HiA.out ?_
    focus (go_simp; done)
    ((try simp only [Act.put, List.setIfInBounds_toArray, List.set_cons_zero, List.set_cons_succ]); repeat (first | (refine Ord.wpOrd_skip ?_ ?_; (focus (go_simp; (try (intro h; cases h)); done)); simp only [Act.put, List.setIfInBounds_toArray, List.set_cons_zero, List.set_cons_succ]) | (refine Ord.wpOrd_take (v := ?_) ?_ ?_ ?_; rotate_left; (focus (go_simp; done)); (focus (intro w' hSw; (try dsimp only at hSw); go_simp; (try with_reducible rfl); done)); simp only [Act.put, List.setIfInBounds_toArray, List.set_cons_zero, List.set_cons_succ])))
    refine Ord.wpOrd_load_mid ?_ 23 _ rfl (w.heap.size + 1) 0 rfl B _ (fun w h => h.2.1) Try.underlying23 rfl HiB.out ?_
    focus (go_simp; done)
    ((try simp only [Act.put, List.setIfInBounds_toArray, List.set_cons_zero, List.set_cons_succ]); repeat (first | (refine Ord.wpOrd_skip ?_ ?_; (focus (go_simp; (try (intro h; cases h)); done)); simp only [Act.put, List.setIfInBounds_toArray, List.set_cons_zero, List.set_cons_succ]) | (refine Ord.wpOrd_take (v := ?_) ?_ ?_ ?_; rotate_left; (focus (go_simp; done)); (focus (intro w' hSw; (try dsimp only at hSw); go_simp; (try with_reducible rfl); done)); simp only [Act.put, List.setIfInBounds_toArray, List.set_cons_zero, List.set_cons_succ])))
    refine Ord.wpOrd_load_mid ?_ 23 _ rfl w.heap.size 0 rfl A _ (fun w h => h.1) Try.underlying23 rfl HiA.out ?_
    focus (go_simp; done)
    ((try simp only [Act.put, List.setIfInBounds_toArray, List.set_cons_zero, List.set_cons_succ]); repeat (first | (refine Ord.wpOrd_skip ?_ ?_; (focus (go_simp; (try (intro h; cases h)); done)); simp only [Act.put, List.setIfInBounds_toArray, List.set_cons_zero, List.set_cons_succ]) | (refine Ord.wpOrd_take (v := ?_) ?_ ?_ ?_; rotate_left; (focus (go_simp; done)); (focus (intro w' hSw; (try dsimp only at hSw); go_simp; (try with_reducible rfl); done)); simp only [Act.put, List.setIfInBounds_toArray, List.set_cons_zero, List.set_cons_succ])))
    refine Ord.wpOrd_load_mid ?_ 23 _ rfl (w.heap.size + 1) 0 rfl B _ (fun w h => h.2.1) Try.underlying23 rfl HiB.out ?_
    focus (go_simp; done)
    ((try simp only [Act.put, List.setIfInBounds_toArray, List.set_cons_zero, List.set_cons_succ]); repeat (first | (refine Ord.wpOrd_skip ?_ ?_; (focus (go_simp; (try (intro h; cases h)); done)); simp only [Act.put, List.setIfInBounds_toArray, List.set_cons_zero, List.set_cons_succ]) | (refine Ord.wpOrd_take (v := ?_) ?_ ?_ ?_; rotate_left; (focus (go_simp; done)); (focus (intro w' hSw; (try dsimp only at hSw); go_simp; (try with_reducible rfl); done)); simp only [Act.put, List.setIfInBounds_toArray, List.set_cons_zero, List.set_cons_succ])))
    (refine Ord.wpOrd_call ?_ (fun K hK => ?_); (focus (go_simp; done)); go_simp)
    go_at_call 16
    refine (Hls.out _).mono ?_
    rintro r w7 ⟨rfl, hb7⟩
    have hb7' := below_go hb7 hb6'
    (refine hK _ _ (by exact ⟨rng_below hra5 hb7', rng_below hrb5 hb7', rng_below hr85 hb7', rng_below hr05 hb7'⟩) ?_; clear hK K; (try simp only [Act.put, List.setIfInBounds_toArray, List.set_cons_zero, List.set_cons_succ]); repeat (first | (refine Ord.wpOrd_skip ?_ ?_; (focus (go_simp; (try (intro h; cases h)); done)); simp only [Act.put, List.setIfInBounds_toArray, List.set_cons_zero, List.set_cons_succ]) | (refine Ord.wpOrd_take (v := ?_) ?_ ?_ ?_; rotate_left; (focus (go_simp; done)); (focus (intro w' hSw; (try dsimp only at hSw); go_simp; (try with_reducible rfl); done)); simp only [Act.put, List.setIfInBounds_toArray, List.set_cons_zero, List.set_cons_succ])))
    (refine Ord.wpOrd_call ?_ (fun K hK => ?_); (focus (go_simp; done)); go_simp)
    go_at_call 17
    refine (Hrl.out _).mono ?_
    rintro r w8 ⟨rfl, hb8⟩
    have hb8' := below_go hb8 hb7'
    (refine hK _ _ (by exact ⟨rng_below hra5 hb8', rng_below hrb5 hb8', rng_below hr85 hb8', rng_below hr05 hb8'⟩) ?_; clear hK K; (try simp only [Act.put, List.setIfInBounds_toArray, List.set_cons_zero, List.set_cons_succ]); repeat (first | (refine Ord.wpOrd_skip ?_ ?_; (focus (go_simp; (try (intro h; cases h)); done)); simp only [Act.put, List.setIfInBounds_toArray, List.set_cons_zero, List.set_cons_succ]) | (refine Ord.wpOrd_take (v := ?_) ?_ ?_ ?_; rotate_left; (focus (go_simp; done)); (focus (intro w' hSw; (try dsimp only at hSw); go_simp; (try with_reducible rfl); done)); simp only [Act.put, List.setIfInBounds_toArray, List.set_cons_zero, List.set_cons_succ])))
    refine Ord.wpOrd_load_mid ?_ 23 _ rfl G10 0 rfl Y _ (fun w h => h.2.2.2) Try.underlying23 rfl HiY.out ?_
    focus (go_simp; done)
    ((try simp only [Act.put, List.setIfInBounds_toArray, List.set_cons_zero, List.set_cons_succ]); repeat (first | (refine Ord.wpOrd_skip ?_ ?_; (focus (go_simp; (try (intro h; cases h)); done)); simp only [Act.put, List.setIfInBounds_toArray, List.set_cons_zero, List.set_cons_succ]) | (refine Ord.wpOrd_take (v := ?_) ?_ ?_ ?_; rotate_left; (focus (go_simp; done)); (focus (intro w' hSw; (try dsimp only at hSw); go_simp; (try with_reducible rfl); done)); simp only [Act.put, List.setIfInBounds_toArray, List.set_cons_zero, List.set_cons_succ])))
    (refine Ord.wpOrd_call ?_ (fun K hK => ?_); (focus (go_simp; done)); go_simp)
    go_at_call 13
    refine (Hte3.out _).mono ?_
    rintro r w9 ⟨rfl, hb9⟩
    have hb9' := below_go hb9 hb8'
    (refine hK _ _ (by exact ⟨rng_below hra5 hb9', rng_below hrb5 hb9', rng_below hr85 hb9', rng_below hr05 hb9'⟩) ?_; clear hK K; (try simp only [Act.put, List.setIfInBounds_toArray, List.set_cons_zero, List.set_cons_succ]); repeat (first | (refine Ord.wpOrd_skip ?_ ?_; (focus (go_simp; (try (intro h; cases h)); done)); simp only [Act.put, List.setIfInBounds_toArray, List.set_cons_zero, List.set_cons_succ]) | (refine Ord.wpOrd_take (v := ?_) ?_ ?_ ?_; rotate_left; (focus (go_simp; done)); (focus (intro w' hSw; (try dsimp only at hSw); go_simp; (try with_reducible rfl); done)); simp only [Act.put, List.setIfInBounds_toArray, List.set_cons_zero, List.set_cons_succ])))
    (refine Ord.wpOrd_call ?_ (fun K hK => ?_); (focus (go_simp; done)); go_simp)
    go_at_call 18
    refine (Hone.out _).mono ?_
    rintro r w10 ⟨rfl, hb10⟩
    have hb10' := below_go hb10 hb9'
    (refine hK _ _ (by exact ⟨rng_below hra5 hb10', rng_below hrb5 hb10', rng_below hr85 hb10', rng_below hr05 hb10'⟩) ?_; clear hK K; (try simp only [Act.put, List.setIfInBounds_toArray, List.set_cons_zero, List.set_cons_succ]); repeat (first | (refine Ord.wpOrd_skip ?_ ?_; (focus (go_simp; (try (intro h; cases h)); done)); simp only [Act.put, List.setIfInBounds_toArray, List.set_cons_zero, List.set_cons_succ]) | (refine Ord.wpOrd_take (v := ?_) ?_ ?_ ?_; rotate_left; (focus (go_simp; done)); (focus (intro w' hSw; (try dsimp only at hSw); go_simp; (try with_reducible rfl); done)); simp only [Act.put, List.setIfInBounds_toArray, List.set_cons_zero, List.set_cons_succ])))
    refine Ord.wpOrd_nil ?_
    go_wp2_with fail
    go_ret
    exact ⟨rfl, below_go hb10' Hbw5.out⟩
  · have HYz := Lib.hid (show Y = bs zero32 by rw [HY.out, hy0])
    have hqz := fun W => Sha.eqlSum W y y Hyl.out Hyl.out
    rw [beq_self_eq_true, ← HY.out] at hqz
    have Hqz := Lib.hid hqz
    clear hqz hy0 Hte2
    subst h0
    rw [show ((11 : Nat) : Int) = 11 from rfl]
    (refine Ord.wp_region_ord [(false, 0), (false, 1), (true, 2), (false, 3), (false, 4), (false, 5), (false, 6), (false, 7), (false, 8), (false, 9), (false, 10), (false, 11), (false, 12), (false, 13), (false, 14), (false, 15), (false, 17), (false, 18), (true, 16), (true, 19), (false, 20), (false, 21), (false, 22), (false, 23), (false, 24), (false, 25), (false, 26), (false, 28), (true, 27), (false, 29), (false, 30), (false, 31), (false, 32), (false, 33), (false, 34), (false, 35), (false, 36), (false, 37), (false, 38), (false, 39), (false, 40), (false, 41), (true, 42), (false, 43), (false, 44)] (fun W => W.rangeAt w.heap.size 0 A ∧ W.rangeAt (w.heap.size + 1) 0 B ∧ W.rangeAt G8 0 A ∧ W.rangeAt G10 0 Y) (by kernel_rfl) (by kernel_rfl) (by kernel_rfl) (by kernel_rfl) (by exact ⟨hra5, hrb5, hr85, hr05⟩) ?_; simp only [Ord.ordOps, List.filterMap_cons, List.filterMap_nil, List.getElem?_toArray, List.getElem?_cons_succ, List.getElem?_cons_zero, Option.map_some]; repeat (first | (refine Ord.wpOrd_skip ?_ ?_; (focus (go_simp; (try (intro h; cases h)); done)); simp only [Act.put, List.setIfInBounds_toArray, List.set_cons_zero, List.set_cons_succ]) | (refine Ord.wpOrd_take (v := ?_) ?_ ?_ ?_; rotate_left; (focus (go_simp; done)); (focus (intro w' hSw; (try dsimp only at hSw); go_simp; (try with_reducible rfl); done)); simp only [Act.put, List.setIfInBounds_toArray, List.set_cons_zero, List.set_cons_succ])))
    refine Ord.wpOrd_load_mid ?_ 23 _ rfl w.heap.size 0 rfl A _ (fun w h => h.1) Try.underlying23 rfl HiA.out ?_
    focus (go_simp; done)
    ((try simp only [Act.put, List.setIfInBounds_toArray, List.set_cons_zero, List.set_cons_succ]); repeat (first | (refine Ord.wpOrd_skip ?_ ?_; (focus (go_simp; (try (intro h; cases h)); done)); simp only [Act.put, List.setIfInBounds_toArray, List.set_cons_zero, List.set_cons_succ]) | (refine Ord.wpOrd_take (v := ?_) ?_ ?_ ?_; rotate_left; (focus (go_simp; done)); (focus (intro w' hSw; (try dsimp only at hSw); go_simp; (try with_reducible rfl); done)); simp only [Act.put, List.setIfInBounds_toArray, List.set_cons_zero, List.set_cons_succ])))
    (refine Ord.wpOrd_call ?_ (fun K hK => ?_); (focus (go_simp; done)); go_simp)
    go_at_call 15
    refine (Hrt.out _).mono ?_
    rintro r w6 ⟨rfl, hb6⟩
    have hb6' := below_go hb6 (Below.refl w5.heap.size w5).drew
    (refine hK _ _ (by exact ⟨rng_below hra5 hb6', rng_below hrb5 hb6', rng_below hr85 hb6', rng_below hr05 hb6'⟩) ?_; clear hK K; (try simp only [Act.put, List.setIfInBounds_toArray, List.set_cons_zero, List.set_cons_succ]); repeat (first | (refine Ord.wpOrd_skip ?_ ?_; (focus (go_simp; (try (intro h; cases h)); done)); simp only [Act.put, List.setIfInBounds_toArray, List.set_cons_zero, List.set_cons_succ]) | (refine Ord.wpOrd_take (v := ?_) ?_ ?_ ?_; rotate_left; (focus (go_simp; done)); (focus (intro w' hSw; (try dsimp only at hSw); go_simp; (try with_reducible rfl); done)); simp only [Act.put, List.setIfInBounds_toArray, List.set_cons_zero, List.set_cons_succ])))
    refine Ord.wpOrd_load_mid ?_ 23 _ rfl G8 0 rfl A _ (fun w h => h.2.2.1) Try.underlying23 rfl HiA.out ?_
    focus (go_simp; done)
    ((try simp only [Act.put, List.setIfInBounds_toArray, List.set_cons_zero, List.set_cons_succ]); repeat (first | (refine Ord.wpOrd_skip ?_ ?_; (focus (go_simp; (try (intro h; cases h)); done)); simp only [Act.put, List.setIfInBounds_toArray, List.set_cons_zero, List.set_cons_succ]) | (refine Ord.wpOrd_take (v := ?_) ?_ ?_ ?_; rotate_left; (focus (go_simp; done)); (focus (intro w' hSw; (try dsimp only at hSw); go_simp; (try with_reducible rfl); done)); simp only [Act.put, List.setIfInBounds_toArray, List.set_cons_zero, List.set_cons_succ])))
    refine Ord.wpOrd_load_mid ?_ 23 _ rfl w.heap.size 0 rfl A _ (fun w h => h.1) Try.underlying23 rfl HiA.out ?_
    focus (go_simp; done)
    ((try simp only [Act.put, List.setIfInBounds_toArray, List.set_cons_zero, List.set_cons_succ]); repeat (first | (refine Ord.wpOrd_skip ?_ ?_; (focus (go_simp; (try (intro h; cases h)); done)); simp only [Act.put, List.setIfInBounds_toArray, List.set_cons_zero, List.set_cons_succ]) | (refine Ord.wpOrd_take (v := ?_) ?_ ?_ ?_; rotate_left; (focus (go_simp; done)); (focus (intro w' hSw; (try dsimp only at hSw); go_simp; (try with_reducible rfl); done)); simp only [Act.put, List.setIfInBounds_toArray, List.set_cons_zero, List.set_cons_succ])))
    refine Ord.wpOrd_bin ?_ .eql 23 _ _ _ rfl (.agg A.toArray) (.agg A.toArray) (.bool true) rfl rfl (fun w' => run_eqGuard_agg w' _ _ _ _ _ _ (by kernel_rfl)) Hqa.out ?_
    focus (go_simp; done)
    ((try simp only [Act.put, List.setIfInBounds_toArray, List.set_cons_zero, List.set_cons_succ]); repeat (first | (refine Ord.wpOrd_skip ?_ ?_; (focus (go_simp; (try (intro h; cases h)); done)); simp only [Act.put, List.setIfInBounds_toArray, List.set_cons_zero, List.set_cons_succ]) | (refine Ord.wpOrd_take (v := ?_) ?_ ?_ ?_; rotate_left; (focus (go_simp; done)); (focus (intro w' hSw; (try dsimp only at hSw); go_simp; (try with_reducible rfl); done)); simp only [Act.put, List.setIfInBounds_toArray, List.set_cons_zero, List.set_cons_succ])))
    refine Ord.wpOrd_load_mid ?_ 23 _ rfl w.heap.size 0 rfl A _ (fun w h => h.1) Try.underlying23 rfl HiA.out ?_
    focus (go_simp; done)
    ((try simp only [Act.put, List.setIfInBounds_toArray, List.set_cons_zero, List.set_cons_succ]); repeat (first | (refine Ord.wpOrd_skip ?_ ?_; (focus (go_simp; (try (intro h; cases h)); done)); simp only [Act.put, List.setIfInBounds_toArray, List.set_cons_zero, List.set_cons_succ]) | (refine Ord.wpOrd_take (v := ?_) ?_ ?_ ?_; rotate_left; (focus (go_simp; done)); (focus (intro w' hSw; (try dsimp only at hSw); go_simp; (try with_reducible rfl); done)); simp only [Act.put, List.setIfInBounds_toArray, List.set_cons_zero, List.set_cons_succ])))
    refine Ord.wpOrd_load_mid ?_ 23 _ rfl (w.heap.size + 1) 0 rfl B _ (fun w h => h.2.1) Try.underlying23 rfl HiB.out ?_
    focus (go_simp; done)
    ((try simp only [Act.put, List.setIfInBounds_toArray, List.set_cons_zero, List.set_cons_succ]); repeat (first | (refine Ord.wpOrd_skip ?_ ?_; (focus (go_simp; (try (intro h; cases h)); done)); simp only [Act.put, List.setIfInBounds_toArray, List.set_cons_zero, List.set_cons_succ]) | (refine Ord.wpOrd_take (v := ?_) ?_ ?_ ?_; rotate_left; (focus (go_simp; done)); (focus (intro w' hSw; (try dsimp only at hSw); go_simp; (try with_reducible rfl); done)); simp only [Act.put, List.setIfInBounds_toArray, List.set_cons_zero, List.set_cons_succ])))
    refine Ord.wpOrd_load_mid ?_ 23 _ rfl w.heap.size 0 rfl A _ (fun w h => h.1) Try.underlying23 rfl HiA.out ?_
    focus (go_simp; done)
    ((try simp only [Act.put, List.setIfInBounds_toArray, List.set_cons_zero, List.set_cons_succ]); repeat (first | (refine Ord.wpOrd_skip ?_ ?_; (focus (go_simp; (try (intro h; cases h)); done)); simp only [Act.put, List.setIfInBounds_toArray, List.set_cons_zero, List.set_cons_succ]) | (refine Ord.wpOrd_take (v := ?_) ?_ ?_ ?_; rotate_left; (focus (go_simp; done)); (focus (intro w' hSw; (try dsimp only at hSw); go_simp; (try with_reducible rfl); done)); simp only [Act.put, List.setIfInBounds_toArray, List.set_cons_zero, List.set_cons_succ])))
    refine Ord.wpOrd_load_mid ?_ 23 _ rfl (w.heap.size + 1) 0 rfl B _ (fun w h => h.2.1) Try.underlying23 rfl HiB.out ?_
    focus (go_simp; done)
    ((try simp only [Act.put, List.setIfInBounds_toArray, List.set_cons_zero, List.set_cons_succ]); repeat (first | (refine Ord.wpOrd_skip ?_ ?_; (focus (go_simp; (try (intro h; cases h)); done)); simp only [Act.put, List.setIfInBounds_toArray, List.set_cons_zero, List.set_cons_succ]) | (refine Ord.wpOrd_take (v := ?_) ?_ ?_ ?_; rotate_left; (focus (go_simp; done)); (focus (intro w' hSw; (try dsimp only at hSw); go_simp; (try with_reducible rfl); done)); simp only [Act.put, List.setIfInBounds_toArray, List.set_cons_zero, List.set_cons_succ])))
    (refine Ord.wpOrd_call ?_ (fun K hK => ?_); (focus (go_simp; done)); go_simp)
    go_at_call 16
    refine (Hls.out _).mono ?_
    rintro r w7 ⟨rfl, hb7⟩
    have hb7' := below_go hb7 hb6'
    (refine hK _ _ (by exact ⟨rng_below hra5 hb7', rng_below hrb5 hb7', rng_below hr85 hb7', rng_below hr05 hb7'⟩) ?_; clear hK K; (try simp only [Act.put, List.setIfInBounds_toArray, List.set_cons_zero, List.set_cons_succ]); repeat (first | (refine Ord.wpOrd_skip ?_ ?_; (focus (go_simp; (try (intro h; cases h)); done)); simp only [Act.put, List.setIfInBounds_toArray, List.set_cons_zero, List.set_cons_succ]) | (refine Ord.wpOrd_take (v := ?_) ?_ ?_ ?_; rotate_left; (focus (go_simp; done)); (focus (intro w' hSw; (try dsimp only at hSw); go_simp; (try with_reducible rfl); done)); simp only [Act.put, List.setIfInBounds_toArray, List.set_cons_zero, List.set_cons_succ])))
    (refine Ord.wpOrd_call ?_ (fun K hK => ?_); (focus (go_simp; done)); go_simp)
    go_at_call 17
    refine (Hrl.out _).mono ?_
    rintro r w8 ⟨rfl, hb8⟩
    have hb8' := below_go hb8 hb7'
    (refine hK _ _ (by exact ⟨rng_below hra5 hb8', rng_below hrb5 hb8', rng_below hr85 hb8', rng_below hr05 hb8'⟩) ?_; clear hK K; (try simp only [Act.put, List.setIfInBounds_toArray, List.set_cons_zero, List.set_cons_succ]); repeat (first | (refine Ord.wpOrd_skip ?_ ?_; (focus (go_simp; (try (intro h; cases h)); done)); simp only [Act.put, List.setIfInBounds_toArray, List.set_cons_zero, List.set_cons_succ]) | (refine Ord.wpOrd_take (v := ?_) ?_ ?_ ?_; rotate_left; (focus (go_simp; done)); (focus (intro w' hSw; (try dsimp only at hSw); go_simp; (try with_reducible rfl); done)); simp only [Act.put, List.setIfInBounds_toArray, List.set_cons_zero, List.set_cons_succ])))
    refine Ord.wpOrd_load_mid ?_ 23 _ rfl G10 0 rfl Y _ (fun w h => h.2.2.2) Try.underlying23 rfl HiY.out ?_
    focus (go_simp; done)
    ((try simp only [Act.put, List.setIfInBounds_toArray, List.set_cons_zero, List.set_cons_succ]); repeat (first | (refine Ord.wpOrd_skip ?_ ?_; (focus (go_simp; (try (intro h; cases h)); done)); simp only [Act.put, List.setIfInBounds_toArray, List.set_cons_zero, List.set_cons_succ]) | (refine Ord.wpOrd_take (v := ?_) ?_ ?_ ?_; rotate_left; (focus (go_simp; done)); (focus (intro w' hSw; (try dsimp only at hSw); go_simp; (try with_reducible rfl); done)); simp only [Act.put, List.setIfInBounds_toArray, List.set_cons_zero, List.set_cons_succ])))
    refine Ord.wpOrd_bin ?_ .eql 23 _ _ _ rfl (.agg Y.toArray) (.agg Y.toArray) (.bool true) rfl (by rw [HYz.out]; rfl) (fun w' => run_eqGuard_agg w' _ _ _ _ _ _ (by kernel_rfl)) Hqz.out ?_
    focus (go_simp; done)
    ((try simp only [Act.put, List.setIfInBounds_toArray, List.set_cons_zero, List.set_cons_succ]); repeat (first | (refine Ord.wpOrd_skip ?_ ?_; (focus (go_simp; (try (intro h; cases h)); done)); simp only [Act.put, List.setIfInBounds_toArray, List.set_cons_zero, List.set_cons_succ]) | (refine Ord.wpOrd_take (v := ?_) ?_ ?_ ?_; rotate_left; (focus (go_simp; done)); (focus (intro w' hSw; (try dsimp only at hSw); go_simp; (try with_reducible rfl); done)); simp only [Act.put, List.setIfInBounds_toArray, List.set_cons_zero, List.set_cons_succ])))
    have hb9' := hb8'
    (refine Ord.wpOrd_call ?_ (fun K hK => ?_); (focus (go_simp; done)); go_simp)
    go_at_call 18
    refine (Hone.out _).mono ?_
    rintro r w10 ⟨rfl, hb10⟩
    have hb10' := below_go hb10 hb9'
    (refine hK _ _ (by exact ⟨rng_below hra5 hb10', rng_below hrb5 hb10', rng_below hr85 hb10', rng_below hr05 hb10'⟩) ?_; clear hK K; (try simp only [Act.put, List.setIfInBounds_toArray, List.set_cons_zero, List.set_cons_succ]); repeat (first | (refine Ord.wpOrd_skip ?_ ?_; (focus (go_simp; (try (intro h; cases h)); done)); simp only [Act.put, List.setIfInBounds_toArray, List.set_cons_zero, List.set_cons_succ]) | (refine Ord.wpOrd_take (v := ?_) ?_ ?_ ?_; rotate_left; (focus (go_simp; done)); (focus (intro w' hSw; (try dsimp only at hSw); go_simp; (try with_reducible rfl); done)); simp only [Act.put, List.setIfInBounds_toArray, List.set_cons_zero, List.set_cons_succ])))
    refine Ord.wpOrd_nil ?_
    go_wp2_with fail
    go_ret
    exact ⟨rfl, below_go hb10' Hbw5.out⟩
theorem IdsText_any (a b : Id) (s : ByteArray) (w : World) (ha : a.length = 32) (hb : b.length = 32) {p : Prop} (_ : p) :
    Calls Try.prog 3 #[.agg (bs a).toArray, .agg (bs b).toArray, .string s] w fun r w' => r = .returned (.bool true) ∧ Below w.heap.size w w' := by
  have h := IdsText_walk a b ha hb s.data.toList w
  rw [str_toList] at h
  exact h
end Go.Proofs.Ytpldkplfdbjidaa.Ids
