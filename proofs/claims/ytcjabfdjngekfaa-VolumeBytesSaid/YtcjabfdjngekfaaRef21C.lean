/- ref21: a volume is read of bytes. -/
import Derived.Test.YtcjabfdjngekfaaRef21B
import Derived.Test.YtcjabfdjngekfaaVolKinW
import Derived.Test.YtcjabfdjngekfaaOrdS
set_option linter.unusedVariables false
set_option linter.unusedSimpArgs false
namespace Go.Proofs.Ytcjabfdjngekfaa.Vol
open Go.RowKit Go.Proofs.Ytcjabfdjngekfaa.Wd

theorem built_rz : Try.prog.built 71 [] = some rzero.toArray := by kernel_rfl
theorem rzero_one : ∀ u ∈ rzero, u.oneCell' = true := rcells_one V.zero
theorem str_extract' (l : List UInt8) (a b : Nat) : (str l).extract a b = str ((l.drop a).take (b - a)) := Sha.str_extract l a b
theorem rret_zero (b : List UInt8) (e0 : Nat) (hr : V.read b = (V.zero, e0)) {w w' : World} (hb : Below w.heap.size w w') :
    Ending.returned (.tuple #[.agg rzero.toArray, .int .i64 (e0 : Int)]) = Ending.returned (.tuple #[.agg (rcells (V.read b).1).toArray, .int .i64 ((V.read b).2 : Int)]) ∧ Below w.heap.size w w' := by
  rw [hr]
  exact ⟨rfl, hb⟩
/-- the read volume's block, and the result's -/
structure RG (w W : World) (Z : List Value) (G : Nat) (v : V) : Prop where
  z : W.heap[w.heap.size]? = some (.cells Z.toArray 71 (0, 0))
  g : W.heap[G]? = some (.cells (rcells v).toArray 71 (0, 0))
  lt : w.heap.size < G
  b : Below w.heap.size w W
theorem RG.drew {w W : World} {Z : List Value} {G : Nat} {v : V} (h : RG w W Z G v) : RG w W.drew Z G v := ⟨h.z, h.g, h.lt, h.b.drew⟩
theorem RG.set {w W : World} {Z : List Value} {G : Nat} {v v' : V} (h : RG w W Z G v) (i : Nat) (u : Value) (e : (rcells v).toArray.setIfInBounds i u = (rcells v').toArray) : RG w (W.setCell ⟨G, i, none⟩ u) Z G v' :=
  ⟨blk_far h.z (by have := h.lt; show w.heap.size ≠ G; omega) u, by rw [← e]; exact blk_set h.g i u, h.lt, h.b.grown (grown_setCell _ _ _ _) h.b.size (fun k hk => by injection hk with hk; have := h.lt; omega)⟩
theorem RG.start {w w2 W w3 : World} {Z : List Value} {v : V} (hB : Below w.heap.size w w2) (hz : w2.heap[w.heap.size]? = some (.cells Z.toArray 71 (0, 0))) (hW : Below w2.heap.size w2 W) (hg : W.grownBy w3 (some w2.heap.size)) (h3 : w3.heap[w2.heap.size]? = some (.cells (rcells v).toArray 71 (0, 0))) : RG w w3 Z w2.heap.size v :=
  ⟨blk_grown (blk_below hz hW) hg (by intro e; injection e with e; have := blk_lt hz; omega), h3, blk_lt hz, (hB.trans (hW.mono hB.size)).grown hg (Nat.le_trans hB.size hW.size) (fun k hk => by injection hk with hk; rw [← hk]; exact hB.size)⟩
def bdk (l : List UInt8) (k : Nat) : List UInt8 := l.take k ++ List.replicate (32 - k) 0
theorem bdk_length (l : List UInt8) (k : Nat) (hl : l.length = 32) (hk : k ≤ 32) : (bdk l k).length = 32 := by simp [bdk, hl]; omega
theorem bdk_set (l : List UInt8) (k : Nat) (hl : l.length = 32) (hk : k < 32) : (bdk l k).set k (Sha.gb l k) = bdk l (k + 1) := by
  have h1 : (l.take k).length = k := by rw [List.length_take]; omega
  rw [bdk, List.set_append_right _ _ (by omega), h1, Nat.sub_self, show 32 - k = (32 - (k + 1)) + 1 by omega, List.replicate_succ, List.set_cons_zero, bdk, take_succ_gb l k (by omega), List.append_assoc]
  rfl
theorem rset_bd (bd bd' : List UInt8) (k : Nat) (y : UInt8) (hk : k < bd.length) (e : bd.set k y = bd') (a b c d : Int) (p : List UInt8) : (rcells ⟨bd, a, b, c, d, p⟩).toArray.setIfInBounds k (.int .u8 (y.toNat : Int)) = (rcells ⟨bd', a, b, c, d, p⟩).toArray := by
  rw [List.setIfInBounds_toArray, rcells, List.set_append_left _ _ (by rw [bs_length]; exact hk), rcells, ← e]
  simp [bs, List.map_set]
theorem rset3 (bd : List UInt8) (h : bd.length = 32) (a b c d x : Int) (p : List UInt8) : (rcells ⟨bd, a, b, c, d, p⟩).toArray.setIfInBounds 35 (.int .i64 x) = (rcells ⟨bd, a, b, c, x, p⟩).toArray := by simp [rcells, List.set_append, bs_length, h]
theorem built_r5 (a b c : Int) (s : ByteArray) : Try.prog.built 71 [(1, .int .i64 a), (2, .int .i64 b), (3, .int .i64 c), (5, .string s)] = some (bs zbd ++ [Value.int .i64 a, .int .i64 b, .int .i64 c, .int .i64 0, .string s]).toArray := by kernel_rfl
set_option maxRecDepth 100000 in
set_option maxHeartbeats 4000000 in
theorem rread_any (b : List UInt8) (w : World) (hl : b.length ≤ 100000) :
    Calls Try.prog 50 #[.string (str b)] w fun e w' => e = .returned (.tuple #[.agg (rcells (V.read b).1).toArray, .int .i64 ((V.read b).2 : Int)]) ∧ Below w.heap.size w w' := by
  obtain ⟨Z, hZ⟩ : ∃ Z, Z = rzero := ⟨_, rfl⟩
  have hbu := built_rz
  have hzo := rzero_one
  have hiz : (Try.prog.info? 71).map (·.size) = some rzero.length := infoRef
  rw [← hZ] at hbu hzo hiz
  have HZ := Lib.hid hZ
  have Hbu := Lib.hid hbu
  have Hzo := Lib.hid hzo
  have Hiz := Lib.hid hiz
  clear hZ hbu hzo hiz
  by_cases h75 : b.length < 75
  · have hr : V.read b = (V.zero, 10) := by unfold V.read; rw [if_pos h75]
    have Hr := Lib.hid hr
    clear hr
    have hd1 : decide ((b.length : Int) < 75) = true := decide_eq_true (by omega)
    go_enter Try.func50, Try.ntmps50
    go_wp2_with (first
      | (refine Sha.wpList_build_to rfl _ _ rfl Z.toArray ?_ ?_; focus (rw [List.map_toArray]; exact Hbu.out))
      | (refine Sha.wpList_store_all rfl 71 _ _ rfl w.heap.size Z rzero rfl rfl Hzo.out (by rw [HZ.out]) Hiz.out 71 (heap_alloc_new w _) ?_; intro w3 hw3 hg3))
    have hrg : w3.rangeAt w.heap.size 0 Z := range_all hw3.out
    refine bodyPost_ret (v := .tuple #[.agg Z.toArray, .int .i64 10]) (results_cell_tmp rfl _ _ w.heap.size Z _ _ rfl rfl hrg Try.underlying71 rfl Hiz.out) rfl ?_
    rw [HZ.out]
    exact rret_zero b 10 Hr.out (((Below.refl _ _).alloc (Nat.le_refl _) _).grown hg3 (by rw [alloc_size]; omega) (fun k hk => by injection hk with hk; omega))
  · have hd1 : decide ((b.length : Int) < 75) = false := decide_eq_false (by omega)
    have h75' : 75 ≤ b.length := by omega
    have hx4 : (str b).extract 0 4 = str (b.take 4) := by rw [str_extract']; rfl
    by_cases hm : b.take 4 = magic
    rotate_left
    · have hr : V.read b = (V.zero, 11) := by unfold V.read; rw [if_neg h75, if_pos hm]
      have Hr := Lib.hid hr
      have hm4 : (b.take 4 == [83, 66, 86, 49]) = false := by simpa [magic] using hm
      clear hr hm
      go_enter Try.func50, Try.ntmps50
      go_wp2_with (first
        | (refine Sha.wpList_build_to rfl _ _ rfl Z.toArray ?_ ?_; focus (rw [List.map_toArray]; exact Hbu.out))
        | (refine Sha.wpList_store_all rfl 71 _ _ rfl w.heap.size Z rzero rfl rfl Hzo.out (by rw [HZ.out]) Hiz.out 71 (heap_alloc_new w _) ?_; intro w3 hw3 hg3))
      have hrg : w3.rangeAt w.heap.size 0 Z := range_all hw3.out
      refine bodyPost_ret (v := .tuple #[.agg Z.toArray, .int .i64 11]) (results_cell_tmp rfl _ _ w.heap.size Z _ _ rfl rfl hrg Try.underlying71 rfl Hiz.out) rfl ?_
      rw [HZ.out]
      exact rret_zero b 11 Hr.out (((Below.refl _ _).alloc (Nat.le_refl _) _).grown hg3 (by rw [alloc_size]; omega) (fun k hk => by injection hk with hk; omega))
    · have hm4 : (b.take 4 == [83, 66, 86, 49]) = true := by simpa [magic] using hm
      obtain ⟨m, hmm⟩ : ∃ m, m = b.length - 32 := ⟨_, rfl⟩
      obtain ⟨bod, hbod⟩ : ∃ l, l = b.take m := ⟨_, rfl⟩
      obtain ⟨lst, hlst⟩ : ∃ l, l = b.drop m := ⟨_, rfl⟩
      have hbl : bod.length = m := by rw [hbod, List.length_take]; omega
      have hll : lst.length = 32 := by rw [hlst, List.length_drop]; omega
      have hx5 : (str b).extract 0 m = str bod := by rw [hbod, str_take]
      have hx6 : (str b).extract m b.length = str lst := by rw [hlst, str_drop _ _ _ (Nat.le_refl _)]
      have hx7 : (str b).extract 43 m = str (bod.drop 43) := by rw [str_extract', hbod, List.drop_take]
      have hW1 : IntKind.i64.wrap ((b.length : Int) - 32) = (m : Int) := by rw [IntKind.wrap_i64]; omega
      have hW2 : (b.length : Int) - 32 = (m : Int) := by omega
      have hW3 : IntKind.i64.wrap (m : Int) = (m : Int) := by rw [IntKind.wrap_i64]; omega
      have hw3 : (m : Int) ≤ (b.length : Int) := by omega
      have hw4 : m ≤ b.length := by omega
      have hm43 : 43 ≤ m := by omega
      obtain ⟨sm, hsm⟩ : ∃ s, s = Sha.sha bod := ⟨_, rfl⟩
      have hsl : sm.length = 32 := by rw [hsm, Sha.sha_length]
      have hof : ∀ W, Calls Try.prog 113 #[.string (str bod)] W fun e w' => e = .returned (.agg (bs sm).toArray) ∧ Below W.heap.size W w' := by
        intro W; rw [hsm]; exact Sha.rof_any bod (by omega) W
      have hby : ∀ W, Calls Try.prog 112 #[.agg (bs sm).toArray] W fun e w' => e = .returned (.string (str sm)) ∧ Below W.heap.size W w' := fun W => bytes21_any sm hsl W
      have Hof := Lib.hid hof
      have Hby := Lib.hid hby
      have Hbod := Lib.hid hbod
      have Hlst := Lib.hid hlst
      have Hbl := Lib.hid hbl
      have Hll := Lib.hid hll
      have Hsm := Lib.hid hsm
      have Hsl := Lib.hid hsl
      have HM := Lib.hid hm
      have Hmm := Lib.hid hmm
      clear hof hby hbod hlst hbl hll hsm hsl hm hmm
      by_cases hs : sm = lst
      rotate_left
      · have hr : V.read b = (V.zero, 12) := by
          unfold V.read
          rw [if_neg h75, if_neg (by rw [HM.out]; simp), if_pos (by rw [← Hmm.out, ← Hbod.out, ← Hlst.out, ← Hsm.out]; exact hs)]
        have Hr := Lib.hid hr
        have hne : (sm == lst) = false := by simp [hs]
        clear hr hs
        go_enter Try.func50, Try.ntmps50
        go_wp2_with fail
        (refine Ord.wp_region_ord [(false, 0), (false, 1), (false, 2), (false, 3), (false, 4), (false, 7), (false, 8), (false, 9), (false, 10), (false, 11), (true, 5), (true, 6), (false, 12)] (fun _ => True) (by kernel_rfl) (by kernel_rfl) (by kernel_rfl) (by kernel_rfl) (by trivial) ?_; simp only [Ord.ordOps, List.filterMap_cons, List.filterMap_nil, List.getElem?_toArray, List.getElem?_cons_succ, List.getElem?_cons_zero, Option.map_some]; repeat (first | (refine Ord.wpOrd_skip ?_ ?_; (focus (go_simp; (try (intro h; cases h)); done)); simp only [Act.put, List.setIfInBounds_toArray, List.set_cons_zero, List.set_cons_succ]) | (refine Ord.wpOrd_take (v := ?_) ?_ ?_ ?_; rotate_left; (focus (go_simp; done)); (focus (intro w' hSw; (try dsimp only at hSw); go_simp; (try with_reducible rfl); done)); simp only [Act.put, List.setIfInBounds_toArray, List.set_cons_zero, List.set_cons_succ])))
        (refine Ord.wpOrd_call ?_ (fun K hK => ?_); (focus (go_simp; done)); go_simp)
        go_at_call 113
        refine (Hof.out _).mono ?_
        rintro e w1 ⟨rfl, hb1⟩
        have hz1 : w1.heap[w.heap.size]? = some (.cells Z.toArray 71 (0, 0)) := by rw [HZ.out]; refine blk_below ?_ hb1; exact heap_alloc_new w _
        have hB1 : Below w.heap.size w w1 := below_go hb1 ((Below.refl _ _).alloc (Nat.le_refl _) _).drew
        clear hb1
        (refine hK _ _ (by trivial) ?_; clear hK K; (try simp only [Act.put, List.setIfInBounds_toArray, List.set_cons_zero, List.set_cons_succ]); repeat (first | (refine Ord.wpOrd_skip ?_ ?_; (focus (go_simp; (try (intro h; cases h)); done)); simp only [Act.put, List.setIfInBounds_toArray, List.set_cons_zero, List.set_cons_succ]) | (refine Ord.wpOrd_take (v := ?_) ?_ ?_ ?_; rotate_left; (focus (go_simp; done)); (focus (intro w' hSw; (try dsimp only at hSw); go_simp; (try with_reducible rfl); done)); simp only [Act.put, List.setIfInBounds_toArray, List.set_cons_zero, List.set_cons_succ])))
        (refine Ord.wpOrd_call ?_ (fun K hK => ?_); (focus (go_simp; done)); go_simp)
        go_at_call 112
        refine (Hby.out _).mono ?_
        rintro e w2 ⟨rfl, hb2⟩
        have hB2 := below_go hb2 hB1
        have Hz2 := Lib.hid (blk_below hz1 hb2)
        clear hb2 hz1 hB1
        (refine hK _ _ (by trivial) ?_; clear hK K; (try simp only [Act.put, List.setIfInBounds_toArray, List.set_cons_zero, List.set_cons_succ]); repeat (first | (refine Ord.wpOrd_skip ?_ ?_; (focus (go_simp; (try (intro h; cases h)); done)); simp only [Act.put, List.setIfInBounds_toArray, List.set_cons_zero, List.set_cons_succ]) | (refine Ord.wpOrd_take (v := ?_) ?_ ?_ ?_; rotate_left; (focus (go_simp; done)); (focus (intro w' hSw; (try dsimp only at hSw); go_simp; (try with_reducible rfl); done)); simp only [Act.put, List.setIfInBounds_toArray, List.set_cons_zero, List.set_cons_succ])))
        refine Ord.wpOrd_nil ?_
        go_wp2_with (first
          | (refine Sha.wpList_build_to rfl _ _ rfl Z.toArray ?_ ?_; focus (rw [List.map_toArray]; exact Hbu.out))
          | (refine Sha.wpList_store_all rfl 71 _ _ rfl w.heap.size Z Z rfl rfl Hzo.out rfl Hiz.out 71 Hz2.out ?_; intro w3 hw3 hg3))
        have hrg : w3.rangeAt w.heap.size 0 Z := range_all hw3.out
        refine bodyPost_ret (v := .tuple #[.agg Z.toArray, .int .i64 12]) (results_cell_tmp rfl _ _ w.heap.size Z _ _ rfl rfl hrg Try.underlying71 rfl Hiz.out) rfl ?_
        rw [HZ.out]
        exact rret_zero b 12 Hr.out (hB2.grown hg3 hB2.size (fun k hk => by injection hk with hk; omega))
      · have heq : (sm == lst) = true := by simp [hs]
        obtain ⟨x0, hx0⟩ : ∃ x, x = (b.getD 36 0) := ⟨_, rfl⟩
        obtain ⟨x1, hx1⟩ : ∃ x, x = (b.getD 37 0) := ⟨_, rfl⟩
        obtain ⟨x2, hx2⟩ : ∃ x, x = (b.getD 38 0) := ⟨_, rfl⟩
        have gd : ∀ i (h : i < b.length), b[i] = b.getD i 0 := by intro i h; simp [List.getD_eq_getElem?_getD, List.getElem?_eq_getElem h]
        have e0 : b[36] = x0 := by rw [hx0]; exact gd 36 (by omega)
        have e1 : b[37] = x1 := by rw [hx1]; exact gd 37 (by omega)
        have e2 : b[38] = x2 := by rw [hx2]; exact gd 38 (by omega)
        have b0 := x0.toNat_lt
        have b1 := x1.toNat_lt
        have b2 := x2.toNat_lt
        have Hx0 := Lib.hid hx0
        have Hx1 := Lib.hid hx1
        have Hx2 := Lib.hid hx2
        have Gd := Lib.hid gd
        clear hs hx0 hx1 hx2 gd
        go_enter Try.func50, Try.ntmps50
        go_wp2_with fail
        (refine Ord.wp_region_ord [(false, 0), (false, 1), (false, 2), (false, 3), (false, 4), (false, 7), (false, 8), (false, 9), (false, 10), (false, 11), (true, 5), (true, 6), (false, 12)] (fun _ => True) (by kernel_rfl) (by kernel_rfl) (by kernel_rfl) (by kernel_rfl) (by trivial) ?_; simp only [Ord.ordOps, List.filterMap_cons, List.filterMap_nil, List.getElem?_toArray, List.getElem?_cons_succ, List.getElem?_cons_zero, Option.map_some]; repeat (first | (refine Ord.wpOrd_skip ?_ ?_; (focus (go_simp; (try (intro h; cases h)); done)); simp only [Act.put, List.setIfInBounds_toArray, List.set_cons_zero, List.set_cons_succ]) | (refine Ord.wpOrd_take (v := ?_) ?_ ?_ ?_; rotate_left; (focus (go_simp; done)); (focus (intro w' hSw; (try dsimp only at hSw); go_simp; (try with_reducible rfl); done)); simp only [Act.put, List.setIfInBounds_toArray, List.set_cons_zero, List.set_cons_succ])))
        (refine Ord.wpOrd_call ?_ (fun K hK => ?_); (focus (go_simp; done)); go_simp)
        go_at_call 113
        refine (Hof.out _).mono ?_
        rintro e w1 ⟨rfl, hb1⟩
        have hz1 : w1.heap[w.heap.size]? = some (.cells Z.toArray 71 (0, 0)) := by rw [HZ.out]; refine blk_below ?_ hb1; exact heap_alloc_new w _
        have hB1 : Below w.heap.size w w1 := below_go hb1 ((Below.refl _ _).alloc (Nat.le_refl _) _).drew
        clear hb1
        (refine hK _ _ (by trivial) ?_; clear hK K; (try simp only [Act.put, List.setIfInBounds_toArray, List.set_cons_zero, List.set_cons_succ]); repeat (first | (refine Ord.wpOrd_skip ?_ ?_; (focus (go_simp; (try (intro h; cases h)); done)); simp only [Act.put, List.setIfInBounds_toArray, List.set_cons_zero, List.set_cons_succ]) | (refine Ord.wpOrd_take (v := ?_) ?_ ?_ ?_; rotate_left; (focus (go_simp; done)); (focus (intro w' hSw; (try dsimp only at hSw); go_simp; (try with_reducible rfl); done)); simp only [Act.put, List.setIfInBounds_toArray, List.set_cons_zero, List.set_cons_succ])))
        (refine Ord.wpOrd_call ?_ (fun K hK => ?_); (focus (go_simp; done)); go_simp)
        go_at_call 112
        refine (Hby.out _).mono ?_
        rintro e w2 ⟨rfl, hb2⟩
        have hB2 := below_go hb2 hB1
        have Hz2 := Lib.hid (blk_below hz1 hb2)
        clear hb2 hz1 hB1
        (refine hK _ _ (by trivial) ?_; clear hK K; (try simp only [Act.put, List.setIfInBounds_toArray, List.set_cons_zero, List.set_cons_succ]); repeat (first | (refine Ord.wpOrd_skip ?_ ?_; (focus (go_simp; (try (intro h; cases h)); done)); simp only [Act.put, List.setIfInBounds_toArray, List.set_cons_zero, List.set_cons_succ]) | (refine Ord.wpOrd_take (v := ?_) ?_ ?_ ?_; rotate_left; (focus (go_simp; done)); (focus (intro w' hSw; (try dsimp only at hSw); go_simp; (try with_reducible rfl); done)); simp only [Act.put, List.setIfInBounds_toArray, List.set_cons_zero, List.set_cons_succ])))
        refine Ord.wpOrd_nil ?_
        have hl36 : (36 : Int) < (b.length : Int) := by omega
        have hl37 : (37 : Int) < (b.length : Int) := by omega
        have hl38 : (38 : Int) < (b.length : Int) := by omega
        have hp43 : (43 : Int) ≤ (m : Int) := by omega
        have hv0 : IntKind.i64.wrap (x0.toNat : Int) = (x0.toNat : Int) := by rw [IntKind.wrap_i64]; omega
        have hv1 : IntKind.i64.wrap (x1.toNat : Int) = (x1.toNat : Int) := by rw [IntKind.wrap_i64]; omega
        have hv2 : IntKind.i64.wrap (x2.toNat : Int) = (x2.toNat : Int) := by rw [IntKind.wrap_i64]; omega
        obtain ⟨v0, hv0d⟩ : ∃ v, v = V.mk zbd x0.toNat x1.toNat x2.toNat 0 (bod.drop 43) := ⟨_, rfl⟩
        have hRl : (rcells v0).length = 37 := by rw [rcells_length]; rw [hv0d]; rfl
        have hR1 := rcells_one v0
        obtain ⟨R, hR⟩ : ∃ R, R = rcells v0 := ⟨_, rfl⟩
        rw [← hR] at hRl hR1
        have HRl := Lib.hid hRl
        have HR1 := Lib.hid hR1
        have HR := Lib.hid hR
        have Hv0 := Lib.hid hv0d
        clear hRl hR1 hR hv0d
        go_wp2_with fail
        (refine Ord.wp_region_ord [(false, 0), (false, 1), (false, 2), (false, 3), (false, 4), (false, 5), (false, 6), (false, 7), (false, 8), (false, 9), (false, 10), (false, 11), (false, 12), (false, 13), (false, 14), (true, 15), (true, 16)] (fun _ => True) (by kernel_rfl) (by kernel_rfl) (by kernel_rfl) (by kernel_rfl) (by trivial) ?_; simp only [Ord.ordOps, List.filterMap_cons, List.filterMap_nil, List.getElem?_toArray, List.getElem?_cons_succ, List.getElem?_cons_zero, Option.map_some]; repeat (first | (refine Ord.wpOrd_skip ?_ ?_; (focus (go_simp; (try (intro h; cases h)); done)); simp only [Act.put, List.setIfInBounds_toArray, List.set_cons_zero, List.set_cons_succ]) | (refine Ord.wpOrd_take (v := ?_) ?_ ?_ ?_; rotate_left; (focus (go_simp; done)); (focus (intro w' hSw; (try dsimp only at hSw); go_simp; (try with_reducible rfl); done)); simp only [Act.put, List.setIfInBounds_toArray, List.set_cons_zero, List.set_cons_succ])))
        (refine Ord.wpOrd_call ?_ (fun K hK => ?_); (focus (go_simp; done)); go_simp)
        (refine hK _ _ (by trivial) ?_; clear hK K; (try simp only [Act.put, List.setIfInBounds_toArray, List.set_cons_zero, List.set_cons_succ]); repeat (first | (refine Ord.wpOrd_skip ?_ ?_; (focus (go_simp; (try (intro h; cases h)); done)); simp only [Act.put, List.setIfInBounds_toArray, List.set_cons_zero, List.set_cons_succ]) | (refine Ord.wpOrd_take (v := ?_) ?_ ?_ ?_; rotate_left; (focus (go_simp; done)); (focus (intro w' hSw; (try dsimp only at hSw); go_simp; (try with_reducible rfl); done)); simp only [Act.put, List.setIfInBounds_toArray, List.set_cons_zero, List.set_cons_succ])))
        refine Ord.wpOrd_store_all ?_ 71 _ _ rfl w2.heap.size R rzero rfl (by rw [HR.out, Hv0.out]; rfl) HR1.out (HRl.out.trans rzero_length.symm) (by rw [HRl.out]; exact infoRef) 71 (heap_alloc_new _ _) (fun w3 hw3 hg3 => ⟨trivial, ?_⟩)
        · go_simp
        ((try simp only [Act.put, List.setIfInBounds_toArray, List.set_cons_zero, List.set_cons_succ]); repeat (first | (refine Ord.wpOrd_skip ?_ ?_; (focus (go_simp; (try (intro h; cases h)); done)); simp only [Act.put, List.setIfInBounds_toArray, List.set_cons_zero, List.set_cons_succ]) | (refine Ord.wpOrd_take (v := ?_) ?_ ?_ ?_; rotate_left; (focus (go_simp; done)); (focus (intro w' hSw; (try dsimp only at hSw); go_simp; (try with_reducible rfl); done)); simp only [Act.put, List.setIfInBounds_toArray, List.set_cons_zero, List.set_cons_succ])))
        refine Ord.wpOrd_nil ?_
        have P3 : RG w w3 Z w2.heap.size v0 := RG.start hB2 Hz2.out ((Below.refl _ _).alloc (Nat.le_refl _) _).drew hg3 (by rw [← HR.out]; exact hw3.out)
        clear hg3 hw3 hB2 Hz2
        generalize w2.heap.size = G at P3 ⊢
        obtain ⟨lb, hlb⟩ : ∃ l, l = (b.drop 4).take 32 := ⟨_, rfl⟩
        have hlbl : lb.length = 32 := by rw [hlb, List.length_take, List.length_drop]; omega
        have hlbg : ∀ k (h : k < 32), b[4 + k]'(by omega) = Sha.gb lb k := by
          intro k h
          rw [hlb, Sha.gb, List.getD_eq_getElem?_getD, List.getElem?_take, if_pos h, List.getElem?_drop, List.getElem?_eq_getElem (by omega)]; rfl
        have HLbl := Lib.hid hlbl
        have HLbg := Lib.hid hlbg
        have Hlb := Lib.hid hlb
        have Q3 : RG w w3 Z G ⟨bdk lb 0, x0.toNat, x1.toNat, x2.toNat, 0, bod.drop 43⟩ := by rw [Hv0.out] at P3; exact P3
        clear hlbl hlbg hlb P3
        go_wp2_with fail
        go_loopw [5] (fun i wi => ∃ k : Nat, k ≤ 32 ∧ i = .int .i64 (k : Int) ∧ RG w wi Z G ⟨bdk lb k, x0.toNat, x1.toNat, x2.toNat, 0, bod.drop 43⟩) (fun i _ => 32 - (intOf i).toNat)
        case atStart => exact ⟨0, by omega, rfl, Q3⟩
        case round =>
          clear Q3
          obtain ⟨k, hk, rfl, hP⟩ := hrel
          by_cases hk32 : k < 32
          · obtain ⟨y, hy⟩ : ∃ y, y = Sha.gb lb k := ⟨_, rfl⟩
            have hkl : ((4 : Int) + (k : Int)) < (b.length : Int) := by omega
            have hkl2 : 4 + k < b.length := by omega
            have ey : b[4 + k] = y := by rw [hy]; exact HLbg.out k hk32
            have hs1 : IntKind.i64.wrap (4 + (k : Int)) = 4 + (k : Int) := by rw [IntKind.wrap_i64]; omega
            have hs2 : (4 + (k : Int)).toNat = 4 + k := by omega
            have hfz := blk_frozen hP.g k
            have hck : ∃ u, wr.cell? ⟨G, k, none⟩ = some u := by
              rw [blk_cell hP.g k]; simp only [List.getElem?_toArray]
              exact ⟨_, List.getElem?_eq_getElem (by rw [rcells_length _ (bdk_length lb k HLbl.out hk)]; omega)⟩
            obtain ⟨u, hck⟩ := hck
            have hS := hP.set k (.int .u8 (y.toNat : Int)) (rset_bd _ (bdk lb (k + 1)) k y (by rw [bdk_length lb k HLbl.out hk]; exact hk32) (by rw [hy]; exact bdk_set lb k HLbl.out hk32) _ _ _ _ _)
            have HS := Lib.hid hS
            have HP := Lib.hid hP
            clear hy hS hP
            go_wp2_with fail
            exact ⟨⟨k + 1, by omega, by go_num, HS.out⟩, by simp only [intOf]; omega⟩
          · obtain rfl : k = 32 := by omega
            have hbd : bdk lb 32 = lb := by rw [bdk, List.take_of_length_le (by rw [HLbl.out]; exact Nat.le_refl _)]; simp
            rw [hbd] at hP
            obtain ⟨l4, hl4⟩ : ∃ l, l = (b.drop 39).take 4 := ⟨_, rfl⟩
            have hl44 : l4.length = 4 := by rw [hl4, List.length_take, List.length_drop]; omega
            have hl4g : ∀ k (h : k < 4), b[39 + k]'(by omega) = Sha.gb l4 k := by
              intro k h
              rw [hl4, Sha.gb, List.getD_eq_getElem?_getD, List.getElem?_take, if_pos h, List.getElem?_drop, List.getElem?_eq_getElem (by omega)]; rfl
            have HL4 := Lib.hid hl4
            have HL44 := Lib.hid hl44
            have HL4g := Lib.hid hl4g
            have HP0 := Lib.hid hP
            clear hl4g
            clear hbd hl4 hl44 hP
            go_wp2_with fail
            simp only [Int.cast_ofNat_Int]
            go_loopw [6] (fun i wi => ∃ k : Nat, k ≤ 4 ∧ i = .int .i64 (39 + (k : Int)) ∧ RG w wi Z G ⟨lb, x0.toNat, x1.toNat, x2.toNat, unbe (l4.take k), bod.drop 43⟩) (fun i _ => 43 - (intOf i).toNat)
            case atStart => exact ⟨0, by omega, rfl, HP0.out⟩
            case round =>
              clear HP0
              obtain ⟨k, hk, rfl, hP⟩ := hrel
              by_cases hk4 : k < 4
              · have hk4' : decide ((39 : Int) + (k : Int) < 43) = true := decide_eq_true (by omega)
                have hl4l : k < l4.length := by rw [HL44.out]; exact hk4
                obtain ⟨y, hy⟩ : ∃ y, y = Sha.gb l4 k := ⟨_, rfl⟩
                have hkl : ((39 : Int) + (k : Int)) < (b.length : Int) := by omega
                have hkl2 : 39 + k < b.length := by omega
                have ey : b[39 + k] = y := by rw [hy]; exact HL4g.out k hk4
                have hs2 : (39 + (k : Int)).toNat = 39 + k := by omega
                have hs0 : (0 : Int) ≤ 39 + (k : Int) := by omega
                have hs1 : IntKind.i64.wrap (39 + (k : Int)) = 39 + (k : Int) := by rw [IntKind.wrap_i64]; omega
                obtain ⟨X, hX⟩ : ∃ X, X = unbe (l4.take k) := ⟨_, rfl⟩
                have hXl : X < 16777216 := by
                  have h1 := unbe_lt (l4.take k)
                  rw [List.length_take, HL44.out, Nat.min_eq_left (by omega)] at h1
                  have h2 : 256 ^ k ≤ 256 ^ 3 := Nat.pow_le_pow_right (by decide) (by omega)
                  rw [hX]; exact Nat.lt_of_lt_of_le h1 h2
                have hyl := y.toNat_lt
                have hXn : (256 : Int) * (X : Int) + (y.toNat : Int) = ((unbe (l4.take (k + 1)) : Nat) : Int) := by
                  rw [take_succ_gb l4 k hl4l, unbe_snoc, ← hX, hy]; simp only [Int.natCast_add, Int.natCast_mul]; omega
                rw [← hX] at hP
                obtain ⟨-, -, -, c35, -⟩ := ref_cells (by exact HLbl.out) hP.g
                simp only at c35
                have f35 := blk_frozen hP.g 35
                have s1 : IntKind.i64.wrap (256 * (X : Int)) = 256 * (X : Int) := by rw [IntKind.wrap_i64]; omega
                have s2 : IntKind.i64.wrap (y.toNat : Int) = (y.toNat : Int) := by rw [IntKind.wrap_i64]; omega
                have s3 : IntKind.i64.wrap (256 * (X : Int) + (y.toNat : Int)) = 256 * (X : Int) + (y.toNat : Int) := by rw [IntKind.wrap_i64]; omega
                have hS := hP.drew.set 35 (.int .i64 (256 * (X : Int) + (y.toNat : Int))) (rset3 lb HLbl.out _ _ _ _ _ _)
                rw [hXn] at hS
                have HXn := Lib.hid hXn
                have HS := Lib.hid hS
                have HP := Lib.hid hP
                clear hX hy hXn hS hP
                go_wp2_with fail
                go_still_tail 9, (by kernel_rfl)
                change wpList _ _ _ _ _ wr.drew
                go_wp2
                refine ⟨⟨k + 1, by omega, by first | (congr 1; done) | (congr 1; omega), ?_⟩, by simp only [intOf]; omega⟩
                rw [HXn.out]
                exact HS.out
              · obtain rfl : k = 4 := by omega
                rw [List.take_of_length_le (by rw [HL44.out]; exact Nat.le_refl 4)] at hP
                obtain ⟨v, hv⟩ : ∃ v, v = V.mk lb x0.toNat x1.toNat x2.toNat (unbe l4) (bod.drop 43) := ⟨_, rfl⟩
                have hul := unbe_lt l4
                rw [HL44.out] at hul
                have hvi : RIn v := by
                  rw [hv]
                  exact ⟨HLbl.out, ⟨by simp only; omega, by simp only; omega⟩, ⟨by simp only; omega, by simp only; omega⟩, ⟨by simp only; omega, by simp only; omega⟩, ⟨by simp only; omega, by simp only; omega⟩, by simp only [List.length_drop]; rw [Hbl.out]; omega⟩
                rw [← hv] at hP
                have hri := fun W => rright_any v W hvi
                have hrv : V.read b = if v.right then (v, 0) else (V.zero, 11) := by
                  have hp : V.parse bod = v := by
                    rw [hv, Hbod.out]
                    unfold V.parse
                    have g : ∀ i, i < m → (b.take m).getD i 0 = b.getD i 0 := by intro i hi; simp [List.getD_eq_getElem?_getD, List.getElem?_take, hi]
                    rw [g 36 (by omega), g 37 (by omega), g 38 (by omega), ← Hx0.out, ← Hx1.out, ← Hx2.out, List.drop_take, List.take_take, Nat.min_eq_left (by omega), ← Hlb.out, List.drop_take, List.take_take, Nat.min_eq_left (by omega), ← HL4.out]
                  unfold V.read
                  rw [if_neg h75, if_neg (by rw [HM.out]; simp), if_neg (by rw [← Hmm.out, ← Hbod.out, ← Hlst.out, ← Hsm.out]; simpa using heq), ← Hmm.out, ← Hbod.out, hp]
                obtain ⟨L, hL⟩ : ∃ L, L = rcells v := ⟨_, rfl⟩
                have hLl : L.length = 37 := by rw [hL]; exact rcells_length _ hvi.bd
                have Hi : Hid ((Try.prog.info? 71).map (·.size) = some L.length) := by show _ = _; rw [hLl]; exact infoRef
                have hL1 : ∀ u ∈ L, u.oneCell' = true := by rw [hL]; exact rcells_one _
                have hLZ : L.length = Z.length := by rw [hLl, HZ.out]; rfl
                have hPg := hP.g
                have hPz := Lib.hid hP.z
                have hPb := hP.b
                rw [← hL] at hri hPg
                have Hri := Lib.hid hri
                have HPg := Lib.hid hPg
                have HL := Lib.hid hL
                have HL1 := Lib.hid hL1
                have HLZ := Lib.hid hLZ
                have Hrr := Lib.hid (range_all hPg)
                have Hrv := Lib.hid hrv
                clear hri hPg hL hv hvi hLl hL1 hLZ hul hP hrv
                by_cases hr : v.right = true
                · have hrw := Hrv.out
                  rw [if_pos hr] at hrw
                  replace Hrv := Lib.hid hrw
                  clear hrw
                  go_wp2_with (first
                    | (refine wpList_load_mid rfl _ _ rfl G 0 rfl L _ Hrr.out Try.underlying71 rfl Hi.out ?_)
                    | (go_at_call 48; refine (Hri.out _).mono ?_; rintro e w9 ⟨he, hb9⟩; rw [hr] at he; subst he; have Hz9 := Lib.hid (blk_below hPz.out hb9); have hB9 : Below w.heap.size w w9 := below_go hb9 hPb; have Hg9 := Lib.hid (blk_below HPg.out hb9); clear Hrr; have Hrr := Lib.hid (range_all Hg9.out))
                    | (refine Sha.wpList_store_all rfl 71 _ _ rfl w.heap.size L Z rfl rfl HL1.out HLZ.out Hi.out 71 Hz9.out ?_; intro wa hwa hga))
                  have hrg : wa.rangeAt w.heap.size 0 L := range_all hwa.out
                  refine bodyPost_ret (v := .tuple #[.agg L.toArray, .int .i64 0]) (results_cell_tmp rfl _ _ w.heap.size L _ _ rfl rfl hrg Try.underlying71 rfl Hi.out) rfl ?_
                  rw [Hrv.out, HL.out]
                  exact ⟨rfl, hB9.grown hga hB9.size (fun k hk => by injection hk with hk; omega)⟩
                · have hrw := Hrv.out
                  rw [if_neg hr] at hrw
                  replace Hrv := Lib.hid hrw
                  have hr' : v.right = false := by simpa using hr
                  clear hr hrw
                  go_wp2_with (first
                    | (refine wpList_load_mid rfl _ _ rfl G 0 rfl L _ Hrr.out Try.underlying71 rfl Hi.out ?_)
                    | (go_at_call 48; refine (Hri.out _).mono ?_; rintro e w9 ⟨he, hb9⟩; rw [hr'] at he; subst he; have Hz9 := Lib.hid (blk_below hPz.out hb9); have hB9 : Below w.heap.size w w9 := below_go hb9 hPb)
                    | (refine Sha.wpList_build_to rfl _ _ rfl Z.toArray ?_ ?_; focus (rw [List.map_toArray]; exact Hbu.out))
                    | (refine Sha.wpList_store_all rfl 71 _ _ rfl w.heap.size Z Z rfl rfl Hzo.out rfl Hiz.out 71 Hz9.out ?_; intro wa hwa hga))
                  have hrg : wa.rangeAt w.heap.size 0 Z := range_all hwa.out
                  refine bodyPost_ret (v := .tuple #[.agg Z.toArray, .int .i64 11]) (results_cell_tmp rfl _ _ w.heap.size Z _ _ rfl rfl hrg Try.underlying71 rfl Hiz.out) rfl ?_
                  rw [HZ.out]
                  exact rret_zero b 11 Hrv.out (hB9.grown hga hB9.size (fun k hk => by injection hk with hk; omega))
end Go.Proofs.Ytcjabfdjngekfaa.Vol
