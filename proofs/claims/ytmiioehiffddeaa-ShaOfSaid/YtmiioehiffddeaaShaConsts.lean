/- ShaConsts' walk. -/
import Derived.Test.YtmiioehiffddeaaRef02A
import Derived.Laws.BitsLemmas
set_option linter.unusedVariables false
set_option linter.unusedSimpArgs false
namespace Go.Proofs.Ytmiioehiffddeaa.Sha
open Go.RowKit Go.Proofs.Ytmiioehiffddeaa.Wd

theorem i64_and63 (n : Int) : bits .and .i64 n 63 = n % 64 := by
  have h : (BitVec.ofInt 64 63).toNat = 2 ^ 6 - 1 := by decide
  have key : (BitVec.ofInt 64 n &&& BitVec.ofInt 64 63).toNat = (n % ((2 ^ 64 : Nat) : Int)).toNat % 2 ^ 6 := by
    rw [BitVec.toNat_and, BitVec.toNat_ofInt, h, Nat.and_two_pow_sub_one_eq_mod]
  show IntKind.i64.wrap ((BitVec.ofInt 64 n &&& BitVec.ofInt 64 63).toNat : Nat) = n % 64
  rw [key, IntKind.wrap_i64]
  omega
theorem i64_and7 (n : Int) : bits .and .i64 n 7 = n % 8 := by
  have h : (BitVec.ofInt 64 7).toNat = 2 ^ 3 - 1 := by decide
  have key : (BitVec.ofInt 64 n &&& BitVec.ofInt 64 7).toNat = (n % ((2 ^ 64 : Nat) : Int)).toNat % 2 ^ 3 := by
    rw [BitVec.toNat_and, BitVec.toNat_ofInt, h, Nat.and_two_pow_sub_one_eq_mod]
  show IntKind.i64.wrap ((BitVec.ofInt 64 n &&& BitVec.ofInt 64 7).toNat : Nat) = n % 8
  rw [key, IntKind.wrap_i64]
  omega
/-- a whole array is laid over another one -/
theorem wpList_store_all {P : Program} {ops : Array Oper} {rest : List Oper} {o : Oper} {a : Act} {W : World} {Q : Exit → Act → World → Prop} (hgd : o.guard = none) (ty : TypeId) (x y : Operand) (ho : o.op = .store ty x y) (g : Nat) (cs cs0 : List Value)
    (hx : a.eval x = .pointer (some ⟨g, 0, none⟩)) (hy : a.eval y = .agg cs.toArray) (h1 : ∀ v ∈ cs, v.oneCell' = true) (hl : cs.length = cs0.length) (hi : (P.info? ty).map (·.size) = some cs.length) (t : TypeId) (hg : W.heap[g]? = some (.cells cs0.toArray t (0, 0)))
    (h : ∀ W', Hid (W'.heap[g]? = some (.cells cs.toArray t (0, 0))) → W.grownBy W' (some g) → wpList P ops Q rest (a.put o.dst undef) W') : wpList P ops Q (o :: rest) a W := by
  refine wpList_store_mid hgd _ x y ho g 0 cs.toArray hx hy ?_ (by rw [List.size_toArray]; exact hi) (all_oneCell_toArray h1) ?_
  · intro j hj
    rw [Nat.zero_add, blk_cell hg j]
    rw [List.size_toArray] at hj
    simp only [List.getElem?_toArray]
    rw [List.getElem?_eq_getElem (by omega)]
    exact ⟨rfl, blk_frozen hg j⟩
  · exact h _ (heap_setCells_all _ _ _ _ _ hg (by rw [List.size_toArray, hl])) (grown_cells _ _ _ _)
theorem ws_one (l : List UInt32) : ∀ v ∈ ws l, v.oneCell' = true := by intro v hv; obtain ⟨x, _, rfl⟩ := List.mem_map.1 hv; rfl
set_option maxRecDepth 100000 in
set_option maxHeartbeats 2000000 in
theorem ShaConsts_any (n : Int) (w : World) (hn : (Lit.int .i64 n).wf = true) : Calls Try.prog 8 #[.int .i64 n] w fun e w' => e = .returned (.bool true) ∧ Below w.heap.size w w' := by
  obtain ⟨t, ht⟩ : ∃ t, t = (n % 64).toNat := ⟨_, rfl⟩
  obtain ⟨q, hq⟩ : ∃ q, q = t % 8 := ⟨_, rfl⟩
  have ht64 : t < 64 := by omega
  have hq8 : q < 8 := by omega
  have b1 : bits .and .i64 n 63 = (t : Int) := by rw [i64_and63]; omega
  have b2 : bits .and .i64 (t : Int) 7 = (q : Int) := by rw [i64_and7]; omega
  obtain ⟨L, hL⟩ : ∃ L, L = ws K0 := ⟨_, rfl⟩
  obtain ⟨F, hF⟩ : ∃ L, L = ws F0.list := ⟨_, rfl⟩
  obtain ⟨C, hC⟩ : ∃ L, L = ws (K0 ++ F0.list) := ⟨_, rfl⟩
  have H1 := Lib.hid rounds_any
  have H2 := Lib.hid first_any
  have H3 := Lib.hid all_any
  rw [← hL] at H1
  rw [← hF] at H2
  rw [← hC] at H3
  have l1 : L.length = 64 := by rw [hL, ws_length]; rfl
  have l2 : F.length = 8 := by rw [hF, ws_length]; rfl
  have l3 : C.length = 72 := by rw [hC, ws_length]; rfl
  have o1 : ∀ v ∈ L, v.oneCell' = true := by rw [hL]; exact ws_one _
  have o2 : ∀ v ∈ F, v.oneCell' = true := by rw [hF]; exact ws_one _
  have o3 : ∀ v ∈ C, v.oneCell' = true := by rw [hC]; exact ws_one _
  have i1 : (Try.prog.info? 56).map (·.size) = some L.length := by rw [l1]; rfl
  have i2 : (Try.prog.info? 55).map (·.size) = some F.length := by rw [l2]; rfl
  have i3 : (Try.prog.info? 76).map (·.size) = some C.length := by rw [l3]; rfl
  obtain ⟨x, hx⟩ : ∃ x, x = gw K0 t := ⟨_, rfl⟩
  obtain ⟨y, hy⟩ : ∃ x, x = gw F0.list q := ⟨_, rfl⟩
  have e1 : L[t]? = some (.int .u32 (x.toNat : Int)) := by rw [hL, hx]; exact ws_get _ _ ht64
  have e2 : F[q]? = some (.int .u32 (y.toNat : Int)) := by rw [hF, hy]; exact ws_get _ _ hq8
  have e3 : C[t]? = some (.int .u32 (x.toNat : Int)) := by
    rw [hC, ws_append, List.getElem?_append_left (by rw [ws_length]; exact ht64), hx]; exact ws_get _ _ ht64
  have e4 : C[64 + q]? = some (.int .u32 (y.toNat : Int)) := by
    rw [hC, ws_append, List.getElem?_append_right (by rw [ws_length]; show 64 ≤ _; omega), ws_length, show K0.length = 64 from rfl, Nat.add_sub_cancel_left, hy]; exact ws_get _ _ hq8
  have E1 := Lib.hid e1
  have E2 := Lib.hid e2
  have E3 := Lib.hid e3
  have E4 := Lib.hid e4
  have I1 := Lib.hid i1
  have I2 := Lib.hid i2
  have I3 := Lib.hid i3
  have L1 := Lib.hid l1
  have L2 := Lib.hid l2
  have L3 := Lib.hid l3
  clear hL hF hC l1 l2 l3 i1 i2 i3 hx hy e1 e2 e3 e4 ht hq
  go_enter Try.func8, Try.ntmps8
  go_wp2_with (first
    | (go_at_call 42; refine (H1.out _).mono ?_; rintro e w1 ⟨rfl, hb1⟩)
    | (go_at_call 43; refine (H2.out _).mono ?_; rintro e w2 ⟨rfl, hb2⟩; have hB2 := hb1.trans (hb2.mono hb1.size); clear hb1 hb2)
    | (refine wpList_store_all rfl 56 _ _ rfl w2.heap.size L (part [] 64) rfl rfl o1 (by rw [L1.out]; rfl) I1.out 56 (blk_alloc (heap_alloc_new _ _) _) ?_; intro w3 h3 g3; have k1 : w3.heap[w2.heap.size + 1]? = some (.cells (part [] 8).toArray 55 (0, 0)) := (blk_grown (by have := heap_alloc_new (w2.alloc (.cells (part [] 64).toArray 56)) (.cells (part [] 8).toArray 55); rw [alloc_size] at this; exact this) g3 (by intro e; injection e with e; omega)); have K1 := Lib.hid k1; have z3 : w2.heap.size + 2 ≤ w3.heap.size := (by have := g3.size; rw [alloc_size, alloc_size] at this; omega); have hB3 : Below w.heap.size w w3 := (((hB2.alloc hB2.size _).alloc (by rw [alloc_size]; have := hB2.size; omega) _).grown g3 (by rw [alloc_size, alloc_size]; have := hB2.size; omega) (fun k hk => by injection hk with hk; have := hB2.size; omega)); clear k1 g3)
    | (refine wpList_store_all rfl 55 _ _ rfl (w2.heap.size + 1) F (part [] 8) rfl rfl o2 (by rw [L2.out]; rfl) I2.out 55 K1.out ?_; intro w4 h4 g4; have z4 : w2.heap.size + 2 ≤ w4.heap.size := (by have := g4.size; omega); have hB4 : Below w.heap.size w w4 := (hB3.grown g4 hB3.size (fun k hk => by injection hk with hk; have := hB2.size; omega)); have H34 := Lib.hid (blk_grown h3.out g4 (by intro e; injection e with e; omega)); clear g4)
    | (go_at_call 44; refine (H3.out _).mono ?_; rintro e w5 ⟨rfl, hb5⟩; have hB5 : Below w.heap.size w w5 := hB4.trans (hb5.mono hB4.size); have z5 : w2.heap.size + 2 ≤ w5.heap.size := (by have := hb5.size; omega); have H35 := Lib.hid (blk_below H34.out hb5); have H45 := Lib.hid (blk_below h4.out hb5); clear hb5)
    | (refine wpList_store_all rfl 76 _ _ rfl w5.heap.size C (part [] 72) rfl rfl o3 (by rw [L3.out]; rfl) I3.out 76 (by rw [← zero72]; exact heap_alloc_new _ _) ?_; intro w6 h6 g6; have H36 := Lib.hid (blk_grown (blk_alloc H35.out _) g6 (by intro e; injection e with e; omega)); have H46 := Lib.hid (blk_grown (blk_alloc H45.out _) g6 (by intro e; injection e with e; omega)); have hB6 : Below w.heap.size w w6 := (((hB5.alloc hB5.size _).grown g6 (by rw [alloc_size]; have := hB5.size; omega) (fun k hk => by injection hk with hk; have := hB5.size; omega))); clear g6))
  have c1 : w6.cell? ⟨w2.heap.size, t, none⟩ = some (.int .u32 (x.toNat : Int)) := by rw [blk_cell H36.out t]; simp only [List.getElem?_toArray]; exact E1.out
  have c2 : w6.cell? ⟨w2.heap.size + 1, q, none⟩ = some (.int .u32 (y.toNat : Int)) := by rw [blk_cell H46.out q]; simp only [List.getElem?_toArray]; exact E2.out
  have c3 : w6.cell? ⟨w5.heap.size, t, none⟩ = some (.int .u32 (x.toNat : Int)) := by rw [blk_cell h6.out t]; simp only [List.getElem?_toArray]; exact E3.out
  have c4 : w6.cell? ⟨w5.heap.size, 64 + q, none⟩ = some (.int .u32 (y.toNat : Int)) := by rw [blk_cell h6.out (64 + q)]; simp only [List.getElem?_toArray]; exact E4.out
  have t1 : (t : Int) < 64 := by omega
  have t2 : (q : Int) < 8 := by omega
  (refine Ord.wp_region_ord [(false, 0), (false, 1), (false, 2), (false, 3), (false, 4), (false, 5), (false, 6), (false, 7), (false, 8), (false, 9), (false, 10), (false, 11), (false, 12), (false, 13), (false, 14), (false, 15), (false, 16), (false, 17), (false, 18), (false, 19), (false, 20), (true, 21), (false, 22), (false, 23)] (fun w' => w'.cell? ⟨w2.heap.size, t, none⟩ = some (.int .u32 (x.toNat : Int)) ∧ w'.cell? ⟨w2.heap.size + 1, q, none⟩ = some (.int .u32 (y.toNat : Int)) ∧ w'.cell? ⟨w5.heap.size, t, none⟩ = some (.int .u32 (x.toNat : Int)) ∧ w'.cell? ⟨w5.heap.size, 64 + q, none⟩ = some (.int .u32 (y.toNat : Int))) (by kernel_rfl) (by kernel_rfl) (by kernel_rfl) (by kernel_rfl) (by exact ⟨c1, c2, c3, c4⟩) ?_; simp only [Ord.ordOps, List.filterMap_cons, List.filterMap_nil, List.getElem?_toArray, List.getElem?_cons_succ, List.getElem?_cons_zero, Option.map_some]; repeat (first | (refine Ord.wpOrd_skip ?_ ?_; (focus (go_simp; (try (intro h; cases h)); done)); simp only [Act.put, List.setIfInBounds_toArray, List.set_cons_zero, List.set_cons_succ]) | (refine Ord.wpOrd_take (v := ?_) ?_ ?_ ?_; rotate_left; (focus (go_simp; done)); (focus (intro w' hSw; (try dsimp only at hSw); go_simp; (try with_reducible rfl); done)); simp only [Act.put, List.setIfInBounds_toArray, List.set_cons_zero, List.set_cons_succ])))
  (refine Ord.wpOrd_call ?_ (fun K hK => ?_); (focus (go_simp; done)); go_simp)
  go_at_call 32
  refine (one_any _).mono ?_
  rintro e w7 ⟨rfl, hb7⟩
  (refine hK _ _ (by exact ⟨cell_below hb7 c1, cell_below hb7 c2, cell_below hb7 c3, cell_below hb7 c4⟩) ?_; clear hK K; (try simp only [Act.put, List.setIfInBounds_toArray, List.set_cons_zero, List.set_cons_succ]); repeat (first | (refine Ord.wpOrd_skip ?_ ?_; (focus (go_simp; (try (intro h; cases h)); done)); simp only [Act.put, List.setIfInBounds_toArray, List.set_cons_zero, List.set_cons_succ]) | (refine Ord.wpOrd_take (v := ?_) ?_ ?_ ?_; rotate_left; (focus (go_simp; done)); (focus (intro w' hSw; (try dsimp only at hSw); go_simp; (try with_reducible rfl); done)); simp only [Act.put, List.setIfInBounds_toArray, List.set_cons_zero, List.set_cons_succ])))
  refine Ord.wpOrd_nil ?_
  go_wp2
  go_ret
  exact ⟨rfl, hB6.drew.trans (hb7.mono hB6.size)⟩
end Go.Proofs.Ytmiioehiffddeaa.Sha
