/- Law 3's 'one', walked. -/
import Derived.Test.YtpldkplfdbjidaaIdsO
import Derived.Test.YtpldkplfdbjidaaIdsH
import Derived.Test.YtpldkplfdbjidaaTextW
import Derived.Great.BuildSlice
set_option linter.unusedVariables false
set_option linter.unusedSimpArgs false
namespace Go.Proofs.Ytpldkplfdbjidaa.Ids
open Go.RowKit Go.Proofs.Ytpldkplfdbjidaa.Wd Go.Proofs.Ytpldkplfdbjidaa.Use Go.Proofs.Ytpldkplfdbjidaa.Lay

/-- a row of three elements of several cells -/
theorem wpList_build_three {P : Program} {t e : TypeId} {z : Value} {size bytes : Nat} (E : El P t e z size bytes) (hsm : size ≤ 1000000) {ops : Array Oper} {rest : List Oper} {o : Oper} {a : Act} {w : World} {Q : Exit → Act → World → Prop} (hg : o.guard = none) (x y u : Operand) (ho : o.op = .buildSlice t 3 #[(0, x), (1, y), (2, u)]) (X Y U : List Value)
    (hx : a.eval x = .agg X.toArray) (hy : a.eval y = .agg Y.toArray) (hu : a.eval u = .agg U.toArray) (hX : X.length = size) (hY : Y.length = size) (hU : U.length = size)
    (h : wpList P ops Q rest (a.put o.dst (.slice (some ⟨w.heap.size, 0, none⟩) 3 3)) (w.alloc (.cells (X ++ (Y ++ U)).toArray e))) : wpList P ops Q (o :: rest) a w := by
  obtain ⟨ht, hinfo, hz, hs0, -⟩ := E
  obtain ⟨i0, hi, hzz⟩ := Option.map_eq_some_iff.1 hinfo
  simp only [Prod.mk.injEq] at hzz
  obtain ⟨hz0, hz1, -⟩ := hzz
  have hf := Great.fill_whole (s := size) hs0 [Value.agg X.toArray, .agg Y.toArray, .agg U.toArray] ((Array.range (3 * i0.size)).map (z.cells[· % z.cells.size]!)) (by intro v hv; simp at hv; rcases hv with rfl | rfl | rfl <;> simp [Value.cells, hX, hY, hU]) (by simp [hz1])
  refine wpList_buildSlice hg t e 3 #[(0, x), (1, y), (2, u)] ho (X ++ (Y ++ U)).toArray i0 _ ht hi hz0 (by rw [hz1]; omega) (by rw [hz1]; omega) ?_ h
  have hfl : ([Value.agg X.toArray, .agg Y.toArray, .agg U.toArray].flatMap fun v => v.cells.toList) = X ++ (Y ++ U) := by simp [Value.cells]
  rw [hfl] at hf
  rw [hz1] at hf ⊢
  rw [show (#[(0, x), (1, y), (2, u)].map fun (i, x) => (i, a.eval x)).toList = (([Value.agg X.toArray, .agg Y.toArray, .agg U.toArray].zipIdx 0).map fun x => (x.2, x.1)) by simp [hx, hy, hu]]
  exact hf
def idA : Id := 1 :: List.replicate 31 0
def idB : Id := 2 :: List.replicate 31 0
theorem rof_one : rof [idB, idA, idB] = [idA, idB] := by decide +kernel
theorem mem_one : decide (idB ∈ [idA, idB]) = true := by decide +kernel
theorem sorted_idab : Sorted [idA, idB] := (up_iff _).1 (by decide +kernel)
theorem tx_one : (str (tx idA)).extract 0 4 = ⟨#[48, 49, 48, 48]⟩ := by rw [str_take]; rfl
set_option maxRecDepth 100000 in
set_option maxHeartbeats 8000000 in
theorem one_any (w : World) : Calls Try.prog 18 #[] w fun r w' => r = .returned (.bool true) ∧ Below w.heap.size w w' := by
  have hb0 := below_two w (.cells #[.int .u8 0, .int .u8 0, .int .u8 0, .int .u8 0, .int .u8 0, .int .u8 0, .int .u8 0, .int .u8 0, .int .u8 0, .int .u8 0, .int .u8 0, .int .u8 0, .int .u8 0, .int .u8 0, .int .u8 0, .int .u8 0, .int .u8 0, .int .u8 0, .int .u8 0, .int .u8 0, .int .u8 0, .int .u8 0, .int .u8 0, .int .u8 0, .int .u8 0, .int .u8 0, .int .u8 0, .int .u8 0, .int .u8 0, .int .u8 0, .int .u8 0, .int .u8 0] 23) (.cells #[.int .u8 0, .int .u8 0, .int .u8 0, .int .u8 0, .int .u8 0, .int .u8 0, .int .u8 0, .int .u8 0, .int .u8 0, .int .u8 0, .int .u8 0, .int .u8 0, .int .u8 0, .int .u8 0, .int .u8 0, .int .u8 0, .int .u8 0, .int .u8 0, .int .u8 0, .int .u8 0, .int .u8 0, .int .u8 0, .int .u8 0, .int .u8 0, .int .u8 0, .int .u8 0, .int .u8 0, .int .u8 0, .int .u8 0, .int .u8 0, .int .u8 0, .int .u8 0] 23)
  have hz1 : ((w.alloc (.cells #[.int .u8 0, .int .u8 0, .int .u8 0, .int .u8 0, .int .u8 0, .int .u8 0, .int .u8 0, .int .u8 0, .int .u8 0, .int .u8 0, .int .u8 0, .int .u8 0, .int .u8 0, .int .u8 0, .int .u8 0, .int .u8 0, .int .u8 0, .int .u8 0, .int .u8 0, .int .u8 0, .int .u8 0, .int .u8 0, .int .u8 0, .int .u8 0, .int .u8 0, .int .u8 0, .int .u8 0, .int .u8 0, .int .u8 0, .int .u8 0, .int .u8 0, .int .u8 0] 23)).alloc (.cells #[.int .u8 0, .int .u8 0, .int .u8 0, .int .u8 0, .int .u8 0, .int .u8 0, .int .u8 0, .int .u8 0, .int .u8 0, .int .u8 0, .int .u8 0, .int .u8 0, .int .u8 0, .int .u8 0, .int .u8 0, .int .u8 0, .int .u8 0, .int .u8 0, .int .u8 0, .int .u8 0, .int .u8 0, .int .u8 0, .int .u8 0, .int .u8 0, .int .u8 0, .int .u8 0, .int .u8 0, .int .u8 0, .int .u8 0, .int .u8 0, .int .u8 0, .int .u8 0] 23)).heap[w.heap.size]? = some (.cells (bs (List.replicate 32 0)).toArray 23 (0, 0)) := blk_alloc (heap_alloc_new w (.cells #[.int .u8 0, .int .u8 0, .int .u8 0, .int .u8 0, .int .u8 0, .int .u8 0, .int .u8 0, .int .u8 0, .int .u8 0, .int .u8 0, .int .u8 0, .int .u8 0, .int .u8 0, .int .u8 0, .int .u8 0, .int .u8 0, .int .u8 0, .int .u8 0, .int .u8 0, .int .u8 0, .int .u8 0, .int .u8 0, .int .u8 0, .int .u8 0, .int .u8 0, .int .u8 0, .int .u8 0, .int .u8 0, .int .u8 0, .int .u8 0, .int .u8 0, .int .u8 0] 23)) (.cells #[.int .u8 0, .int .u8 0, .int .u8 0, .int .u8 0, .int .u8 0, .int .u8 0, .int .u8 0, .int .u8 0, .int .u8 0, .int .u8 0, .int .u8 0, .int .u8 0, .int .u8 0, .int .u8 0, .int .u8 0, .int .u8 0, .int .u8 0, .int .u8 0, .int .u8 0, .int .u8 0, .int .u8 0, .int .u8 0, .int .u8 0, .int .u8 0, .int .u8 0, .int .u8 0, .int .u8 0, .int .u8 0, .int .u8 0, .int .u8 0, .int .u8 0, .int .u8 0] 23)
  have hz2 : ((w.alloc (.cells #[.int .u8 0, .int .u8 0, .int .u8 0, .int .u8 0, .int .u8 0, .int .u8 0, .int .u8 0, .int .u8 0, .int .u8 0, .int .u8 0, .int .u8 0, .int .u8 0, .int .u8 0, .int .u8 0, .int .u8 0, .int .u8 0, .int .u8 0, .int .u8 0, .int .u8 0, .int .u8 0, .int .u8 0, .int .u8 0, .int .u8 0, .int .u8 0, .int .u8 0, .int .u8 0, .int .u8 0, .int .u8 0, .int .u8 0, .int .u8 0, .int .u8 0, .int .u8 0] 23)).alloc (.cells #[.int .u8 0, .int .u8 0, .int .u8 0, .int .u8 0, .int .u8 0, .int .u8 0, .int .u8 0, .int .u8 0, .int .u8 0, .int .u8 0, .int .u8 0, .int .u8 0, .int .u8 0, .int .u8 0, .int .u8 0, .int .u8 0, .int .u8 0, .int .u8 0, .int .u8 0, .int .u8 0, .int .u8 0, .int .u8 0, .int .u8 0, .int .u8 0, .int .u8 0, .int .u8 0, .int .u8 0, .int .u8 0, .int .u8 0, .int .u8 0, .int .u8 0, .int .u8 0] 23)).heap[w.heap.size + 1]? = some (.cells (bs (List.replicate 32 0)).toArray 23 (0, 0)) := alloc_at w (.cells #[.int .u8 0, .int .u8 0, .int .u8 0, .int .u8 0, .int .u8 0, .int .u8 0, .int .u8 0, .int .u8 0, .int .u8 0, .int .u8 0, .int .u8 0, .int .u8 0, .int .u8 0, .int .u8 0, .int .u8 0, .int .u8 0, .int .u8 0, .int .u8 0, .int .u8 0, .int .u8 0, .int .u8 0, .int .u8 0, .int .u8 0, .int .u8 0, .int .u8 0, .int .u8 0, .int .u8 0, .int .u8 0, .int .u8 0, .int .u8 0, .int .u8 0, .int .u8 0] 23) (.cells #[.int .u8 0, .int .u8 0, .int .u8 0, .int .u8 0, .int .u8 0, .int .u8 0, .int .u8 0, .int .u8 0, .int .u8 0, .int .u8 0, .int .u8 0, .int .u8 0, .int .u8 0, .int .u8 0, .int .u8 0, .int .u8 0, .int .u8 0, .int .u8 0, .int .u8 0, .int .u8 0, .int .u8 0, .int .u8 0, .int .u8 0, .int .u8 0, .int .u8 0, .int .u8 0, .int .u8 0, .int .u8 0, .int .u8 0, .int .u8 0, .int .u8 0, .int .u8 0] 23)
  have hs0 : (w.alloc (.cells #[.int .u8 0, .int .u8 0, .int .u8 0, .int .u8 0, .int .u8 0, .int .u8 0, .int .u8 0, .int .u8 0, .int .u8 0, .int .u8 0, .int .u8 0, .int .u8 0, .int .u8 0, .int .u8 0, .int .u8 0, .int .u8 0, .int .u8 0, .int .u8 0, .int .u8 0, .int .u8 0, .int .u8 0, .int .u8 0, .int .u8 0, .int .u8 0, .int .u8 0, .int .u8 0, .int .u8 0, .int .u8 0, .int .u8 0, .int .u8 0, .int .u8 0, .int .u8 0] 23)).heap.size = w.heap.size + 1 := alloc_size _ _
  have Hz1 := Lib.hid hz1
  have Hz2 := Lib.hid hz2
  have Hb0 := Lib.hid hb0
  clear hz1 hz2 hb0
  have hw32 : W32 [idB, idA, idB] := by
    intro i hi
    rcases List.mem_cons.1 hi with e | hi
    · rw [e]; rfl
    rcases List.mem_cons.1 hi with e | hi
    · rw [e]; rfl
    rcases List.mem_cons.1 hi with e | hi
    · rw [e]; rfl
    · cases hi
  have Hof := Lib.hid (fun v W h => Of_any [idB, idA, idB] hw32 (by simp) v W h)
  obtain ⟨A, hA⟩ : ∃ A, A = bs idA := ⟨_, rfl⟩
  obtain ⟨B, hB⟩ : ∃ B, B = bs idB := ⟨_, rfl⟩
  have hAl : A.length = 32 := by rw [hA, bs_length]; rfl
  have hBl : B.length = 32 := by rw [hB, bs_length]; rfl
  have HiA := Lib.hid (show (Try.prog.info? 23).map (·.size) = some A.length by rw [hAl]; rfl)
  have HiB := Lib.hid (show (Try.prog.info? 23).map (·.size) = some B.length by rw [hBl]; rfl)
  have HA := Lib.hid hA
  have HB := Lib.hid hB
  have HAl := Lib.hid hAl
  have HBl := Lib.hid hBl
  clear hA hB hAl hBl
  go_enter Try.func18, Try.ntmps18
  go_upto_region 2 with (first
    | (refine Sha.wpList_store_sum rfl _ _ rfl w.heap.size idA (List.replicate 32 0) rfl rfl rfl rfl Hz1.out ?_; intro w1 h1 hg1; have Hz3 := Lib.hid (blk_grown Hz2.out hg1 (by intro e; injection e with e; omega)))
    | (refine Sha.wpList_store_sum rfl _ _ rfl (w.heap.size + 1) idB (List.replicate 32 0) rfl rfl rfl rfl Hz3.out ?_; intro w2 h2 hg2))
  have hp1 := blk_grown h1 hg2 (by intro e; injection e with e; omega)
  have hBw : Below w.heap.size w w2 := (Hb0.out.grown hg1 Hb0.out.size (fun k hk => by injection hk with hk; omega)).grown hg2 (Nat.le_trans Hb0.out.size hg1.size) (fun k hk => by injection hk with hk; omega)
  rw [← HA.out] at hp1
  rw [← HB.out] at h2
  have Hp1 := Lib.hid hp1
  have Hp2 := Lib.hid h2
  have Hra := Lib.hid (show ∀ W, Below w2.heap.size w2 W → W.rangeAt w.heap.size 0 A from fun W h => range_all (blk_below Hp1.out h))
  have Hrb := Lib.hid (show ∀ W, Below w2.heap.size w2 W → W.rangeAt (w.heap.size + 1) 0 B from fun W h => range_all (blk_below Hp2.out h))
  have HBw := Lib.hid hBw
  have hlit := Rd.lit w2 32 3 (B ++ (A ++ B)) 23 (by simp [HAl.out, HBl.out]) (by simp [maxLen])
  have hixe : B ++ (A ++ B) = ix [idB, idA, idB] := by rw [HA.out, HB.out]; simp only [ix, List.flatten_cons, List.flatten_nil, List.append_nil, bs_append]
  have HO := Lib.hid (Hof.out _ _ (by rw [hixe] at hlit; exact hlit))
  rw [← hixe, rof_one] at HO
  have hra := Hra.out w2 (Below.refl _ _)
  have hrb := Hrb.out w2 (Below.refl _ _)
  clear Hz1 Hz2 Hz3 h1 h2 hg1 hg2 Hb0 hp1 hBw hlit hixe hs0 Hof Hp1 Hp2
  go_upto_region 3 with (first
    | (refine wpList_load_mid rfl 23 _ rfl (w.heap.size + 1) 0 rfl B _ hrb Try.underlying23 rfl HiB.out ?_)
    | (refine wpList_load_mid rfl 23 _ rfl w.heap.size 0 rfl A _ hra Try.underlying23 rfl HiA.out ?_)
    | (refine wpList_build_three elSums (by decide) rfl _ _ _ rfl B A B rfl rfl rfl HBl.out HAl.out HBl.out ?_)
    | (go_at_call 19; refine HO.out.mono ?_; rintro e w5 ⟨v5, rfl, ho5, hb5⟩))
  obtain ⟨g, cap, cur, rfl, hbg, hg, hnc, hcm, -, -⟩ := Ord.own_open ho5 (by simp)
  have hcm2 := hcm
  unfold maxLen at hcm2
  have hrd := Rd.of_own ho5
  have hw2 : W32 [idA, idB] := by
    intro i hi
    rcases List.mem_cons.1 hi with e | hi
    · rw [e]; rfl
    rcases List.mem_cons.1 hi with e | hi
    · rw [e]; rfl
    · cases hi
  obtain ⟨b, off, e, hr⟩ := ix_at hrd hw2 rfl (by simp)
  simp only [Option.some.injEq, Addr.mk.injEq] at e
  obtain ⟨rfl, rfl, -⟩ := e
  have hr0 : w5.rangeAt g 0 A := by rw [HA.out]; exact hr 0 (by simp)
  have hr1 : w5.rangeAt g 32 B := by rw [HB.out]; exact hr 1 (by simp)
  have hb25 : Below w2.heap.size w2 w5 := below_go hb5 (below_one _ _)
  have hra5 := Hra.out w5 hb25
  have hrb5 := Hrb.out w5 hb25
  have HB5 := Lib.hid (below_go hb25 HBw.out)
  have Hha := Lib.hid (fun W (h : Below w5.heap.size w5 W) => show Calls Try.prog 66 #[.slice (some ⟨g, 0, none⟩) 2 cap, .agg B.toArray] W fun r w' => r = .returned (.bool true) ∧ Below W.heap.size W w' from by
    have h1 := Has_any [idA, idB] idB hw2 rfl (by simp) sorted_idab _ W (hrd.below h)
    rw [mem_one, ← HB.out] at h1
    exact h1)
  obtain ⟨T, hT⟩ : ∃ T, T = str (tx idA) := ⟨_, rfl⟩
  have Hte := Lib.hid (fun W => show Calls Try.prog 13 #[.agg A.toArray] W fun r w' => r = .returned (.string T) ∧ Below W.heap.size W w' from by
    rw [HA.out, hT]; exact Text_any idA rfl W)
  have ht4 : T.extract 0 4 = ⟨#[48, 49, 48, 48]⟩ := by rw [hT]; exact tx_one
  have hts : T.size = 64 := by rw [hT, str_size, tx_len]; rfl
  have hqa := fun W => Sha.eqlSum W idA idA rfl rfl
  have hqb := fun W => Sha.eqlSum W idB idB rfl rfl
  rw [beq_self_eq_true, ← HA.out] at hqa
  rw [beq_self_eq_true, ← HB.out] at hqb
  have Hqa := Lib.hid hqa
  have Hqb := Lib.hid hqb
  have hl2 : ([idA, idB] : List Id).length = 2 := rfl
  rw [hl2] at *
  clear hqa hqb hT hr ho5 hrd hw2 hw32 Hra Hrb hra hrb hg HO hb25 hb5
  have hlit4 : (⟨#[48, 49, 48, 48]⟩ : ByteArray).toList = [48, 49, 48, 48] := by decide +kernel
  (refine Ord.wp_region_ord [(false, 0), (false, 1), (false, 2), (false, 3), (false, 4), (false, 5), (false, 6), (false, 7), (false, 8), (false, 9), (false, 10), (false, 11), (false, 12), (false, 13), (false, 14), (false, 15), (false, 16), (false, 17), (false, 18), (false, 19), (true, 20), (false, 21), (false, 22), (false, 23), (true, 24), (false, 25), (false, 26), (false, 27), (false, 28)] (fun W => W.rangeAt g 0 A ∧ W.rangeAt g 32 B ∧ W.rangeAt w.heap.size 0 A ∧ W.rangeAt (w.heap.size + 1) 0 B) (by kernel_rfl) (by kernel_rfl) (by kernel_rfl) (by kernel_rfl) (by exact ⟨hr0, hr1, hra5, hrb5⟩) ?_; simp only [Ord.ordOps, List.filterMap_cons, List.filterMap_nil, List.getElem?_toArray, List.getElem?_cons_succ, List.getElem?_cons_zero, Option.map_some]; repeat (first | (refine Ord.wpOrd_skip ?_ ?_; (focus (go_simp; (try (intro h; cases h)); done)); simp only [Act.put, List.setIfInBounds_toArray, List.set_cons_zero, List.set_cons_succ]) | (refine Ord.wpOrd_take (v := ?_) ?_ ?_ ?_; rotate_left; (focus (go_simp; done)); (focus (intro w' hSw; (try dsimp only at hSw); go_simp; (try with_reducible rfl); done)); simp only [Act.put, List.setIfInBounds_toArray, List.set_cons_zero, List.set_cons_succ])))
  refine Ord.wpOrd_load_mid ?_ 23 _ rfl g 0 rfl A _ (fun w h => h.1) Try.underlying23 rfl HiA.out ?_
  focus (go_simp; done)
  ((try simp only [Act.put, List.setIfInBounds_toArray, List.set_cons_zero, List.set_cons_succ]); repeat (first | (refine Ord.wpOrd_skip ?_ ?_; (focus (go_simp; (try (intro h; cases h)); done)); simp only [Act.put, List.setIfInBounds_toArray, List.set_cons_zero, List.set_cons_succ]) | (refine Ord.wpOrd_take (v := ?_) ?_ ?_ ?_; rotate_left; (focus (go_simp; done)); (focus (intro w' hSw; (try dsimp only at hSw); go_simp; (try with_reducible rfl); done)); simp only [Act.put, List.setIfInBounds_toArray, List.set_cons_zero, List.set_cons_succ])))
  refine Ord.wpOrd_load_mid ?_ 23 _ rfl w.heap.size 0 rfl A _ (fun w h => h.2.2.1) Try.underlying23 rfl HiA.out ?_
  focus (go_simp; done)
  ((try simp only [Act.put, List.setIfInBounds_toArray, List.set_cons_zero, List.set_cons_succ]); repeat (first | (refine Ord.wpOrd_skip ?_ ?_; (focus (go_simp; (try (intro h; cases h)); done)); simp only [Act.put, List.setIfInBounds_toArray, List.set_cons_zero, List.set_cons_succ]) | (refine Ord.wpOrd_take (v := ?_) ?_ ?_ ?_; rotate_left; (focus (go_simp; done)); (focus (intro w' hSw; (try dsimp only at hSw); go_simp; (try with_reducible rfl); done)); simp only [Act.put, List.setIfInBounds_toArray, List.set_cons_zero, List.set_cons_succ])))
  refine Ord.wpOrd_bin ?_ .eql 23 _ _ _ rfl (.agg A.toArray) (.agg A.toArray) (.bool true) rfl rfl (fun w' => run_eqGuard_agg w' _ _ _ _ _ _ (by kernel_rfl)) Hqa.out ?_
  focus (go_simp; done)
  ((try simp only [Act.put, List.setIfInBounds_toArray, List.set_cons_zero, List.set_cons_succ]); repeat (first | (refine Ord.wpOrd_skip ?_ ?_; (focus (go_simp; (try (intro h; cases h)); done)); simp only [Act.put, List.setIfInBounds_toArray, List.set_cons_zero, List.set_cons_succ]) | (refine Ord.wpOrd_take (v := ?_) ?_ ?_ ?_; rotate_left; (focus (go_simp; done)); (focus (intro w' hSw; (try dsimp only at hSw); go_simp; (try with_reducible rfl); done)); simp only [Act.put, List.setIfInBounds_toArray, List.set_cons_zero, List.set_cons_succ])))
  refine Ord.wpOrd_load_mid ?_ 23 _ rfl g 32 rfl B _ (fun w h => h.2.1) Try.underlying23 rfl HiB.out ?_
  focus (go_simp; done)
  ((try simp only [Act.put, List.setIfInBounds_toArray, List.set_cons_zero, List.set_cons_succ]); repeat (first | (refine Ord.wpOrd_skip ?_ ?_; (focus (go_simp; (try (intro h; cases h)); done)); simp only [Act.put, List.setIfInBounds_toArray, List.set_cons_zero, List.set_cons_succ]) | (refine Ord.wpOrd_take (v := ?_) ?_ ?_ ?_; rotate_left; (focus (go_simp; done)); (focus (intro w' hSw; (try dsimp only at hSw); go_simp; (try with_reducible rfl); done)); simp only [Act.put, List.setIfInBounds_toArray, List.set_cons_zero, List.set_cons_succ])))
  refine Ord.wpOrd_load_mid ?_ 23 _ rfl (w.heap.size + 1) 0 rfl B _ (fun w h => h.2.2.2) Try.underlying23 rfl HiB.out ?_
  focus (go_simp; done)
  ((try simp only [Act.put, List.setIfInBounds_toArray, List.set_cons_zero, List.set_cons_succ]); repeat (first | (refine Ord.wpOrd_skip ?_ ?_; (focus (go_simp; (try (intro h; cases h)); done)); simp only [Act.put, List.setIfInBounds_toArray, List.set_cons_zero, List.set_cons_succ]) | (refine Ord.wpOrd_take (v := ?_) ?_ ?_ ?_; rotate_left; (focus (go_simp; done)); (focus (intro w' hSw; (try dsimp only at hSw); go_simp; (try with_reducible rfl); done)); simp only [Act.put, List.setIfInBounds_toArray, List.set_cons_zero, List.set_cons_succ])))
  refine Ord.wpOrd_bin ?_ .eql 23 _ _ _ rfl (.agg B.toArray) (.agg B.toArray) (.bool true) rfl rfl (fun w' => run_eqGuard_agg w' _ _ _ _ _ _ (by kernel_rfl)) Hqb.out ?_
  focus (go_simp; done)
  ((try simp only [Act.put, List.setIfInBounds_toArray, List.set_cons_zero, List.set_cons_succ]); repeat (first | (refine Ord.wpOrd_skip ?_ ?_; (focus (go_simp; (try (intro h; cases h)); done)); simp only [Act.put, List.setIfInBounds_toArray, List.set_cons_zero, List.set_cons_succ]) | (refine Ord.wpOrd_take (v := ?_) ?_ ?_ ?_; rotate_left; (focus (go_simp; done)); (focus (intro w' hSw; (try dsimp only at hSw); go_simp; (try with_reducible rfl); done)); simp only [Act.put, List.setIfInBounds_toArray, List.set_cons_zero, List.set_cons_succ])))
  refine Ord.wpOrd_load_mid ?_ 23 _ rfl (w.heap.size + 1) 0 rfl B _ (fun w h => h.2.2.2) Try.underlying23 rfl HiB.out ?_
  focus (go_simp; done)
  ((try simp only [Act.put, List.setIfInBounds_toArray, List.set_cons_zero, List.set_cons_succ]); repeat (first | (refine Ord.wpOrd_skip ?_ ?_; (focus (go_simp; (try (intro h; cases h)); done)); simp only [Act.put, List.setIfInBounds_toArray, List.set_cons_zero, List.set_cons_succ]) | (refine Ord.wpOrd_take (v := ?_) ?_ ?_ ?_; rotate_left; (focus (go_simp; done)); (focus (intro w' hSw; (try dsimp only at hSw); go_simp; (try with_reducible rfl); done)); simp only [Act.put, List.setIfInBounds_toArray, List.set_cons_zero, List.set_cons_succ])))
  (refine Ord.wpOrd_call ?_ (fun K hK => ?_); (focus (go_simp; done)); go_simp)
  go_at_call 66
  refine (Hha.out _ (Below.refl _ _).drew).mono ?_
  rintro r w6 ⟨rfl, hb6⟩
  have hb6' := below_go hb6 (Below.refl w5.heap.size w5).drew
  (refine hK _ _ (by exact ⟨fun j u hu => cell_below hb6' (hr0 j u hu), fun j u hu => cell_below hb6' (hr1 j u hu), fun j u hu => cell_below hb6' (hra5 j u hu), fun j u hu => cell_below hb6' (hrb5 j u hu)⟩) ?_; clear hK K; (try simp only [Act.put, List.setIfInBounds_toArray, List.set_cons_zero, List.set_cons_succ]); repeat (first | (refine Ord.wpOrd_skip ?_ ?_; (focus (go_simp; (try (intro h; cases h)); done)); simp only [Act.put, List.setIfInBounds_toArray, List.set_cons_zero, List.set_cons_succ]) | (refine Ord.wpOrd_take (v := ?_) ?_ ?_ ?_; rotate_left; (focus (go_simp; done)); (focus (intro w' hSw; (try dsimp only at hSw); go_simp; (try with_reducible rfl); done)); simp only [Act.put, List.setIfInBounds_toArray, List.set_cons_zero, List.set_cons_succ])))
  refine Ord.wpOrd_load_mid ?_ 23 _ rfl w.heap.size 0 rfl A _ (fun w h => h.2.2.1) Try.underlying23 rfl HiA.out ?_
  focus (go_simp; done)
  ((try simp only [Act.put, List.setIfInBounds_toArray, List.set_cons_zero, List.set_cons_succ]); repeat (first | (refine Ord.wpOrd_skip ?_ ?_; (focus (go_simp; (try (intro h; cases h)); done)); simp only [Act.put, List.setIfInBounds_toArray, List.set_cons_zero, List.set_cons_succ]) | (refine Ord.wpOrd_take (v := ?_) ?_ ?_ ?_; rotate_left; (focus (go_simp; done)); (focus (intro w' hSw; (try dsimp only at hSw); go_simp; (try with_reducible rfl); done)); simp only [Act.put, List.setIfInBounds_toArray, List.set_cons_zero, List.set_cons_succ])))
  (refine Ord.wpOrd_call ?_ (fun K hK => ?_); (focus (go_simp; done)); go_simp)
  go_at_call 13
  refine (Hte.out _).mono ?_
  rintro r w7 ⟨rfl, hb7⟩
  have hb7' := below_go hb7 hb6'
  (refine hK _ _ (by exact ⟨fun j u hu => cell_below hb7' (hr0 j u hu), fun j u hu => cell_below hb7' (hr1 j u hu), fun j u hu => cell_below hb7' (hra5 j u hu), fun j u hu => cell_below hb7' (hrb5 j u hu)⟩) ?_; clear hK K; (try simp only [Act.put, List.setIfInBounds_toArray, List.set_cons_zero, List.set_cons_succ]); repeat (first | (refine Ord.wpOrd_skip ?_ ?_; (focus (go_simp; (try (intro h; cases h)); done)); simp only [Act.put, List.setIfInBounds_toArray, List.set_cons_zero, List.set_cons_succ]) | (refine Ord.wpOrd_take (v := ?_) ?_ ?_ ?_; rotate_left; (focus (go_simp; done)); (focus (intro w' hSw; (try dsimp only at hSw); go_simp; (try with_reducible rfl); done)); simp only [Act.put, List.setIfInBounds_toArray, List.set_cons_zero, List.set_cons_succ])))
  refine Ord.wpOrd_nil ?_
  go_wp2_with fail
  go_ret
  exact ⟨rfl, below_go hb7' HB5.out⟩
end Go.Proofs.Ytpldkplfdbjidaa.Ids
