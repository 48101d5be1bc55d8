/- Ids' walks: slices.Compact at sums. -/
import Derived.Test.YtpldkplfdbjidaaIdsC
set_option linter.unusedVariables false
set_option linter.unusedSimpArgs false
namespace Go.Proofs.Ytpldkplfdbjidaa.Ids
open Go.RowKit Go.Proofs.Ytpldkplfdbjidaa.Wd Go.Proofs.Ytpldkplfdbjidaa.Use Go.Proofs.Ytpldkplfdbjidaa.Lay
open Go.Op (bytesLess)

def zsumv : Value := .agg (bs zid).toArray
theorem zsumv_run (W : World) : (zeroValue 23).run Try.prog W = .ok zsumv W := by kernel_rfl
theorem zsumv_size (n : Nat) : (Builtin.zeroCells zsumv.cells n).size = n * 32 := by
  simp [Builtin.zeroCells, zsumv, Value.cells, bs, zid]
theorem zsumv_one (n : Nat) : ∀ v ∈ (Builtin.zeroCells zsumv.cells n).toList, v.oneCell' = true := by
  intro v hv
  simp only [Builtin.zeroCells, Array.toList_map, List.mem_map] at hv
  obtain ⟨k, -, rfl⟩ := hv
  have hz : zsumv.cells = (bs zid).toArray := rfl
  have hs : (bs zid).toArray.size = 32 := rfl
  rw [hz, hs]
  have hk : k % 32 < (bs zid).length := Nat.mod_lt _ (by decide)
  rw [getElem!_pos _ _ (by rw [List.size_toArray]; exact hk)]
  exact bs_oneCell zid _ (by simp)
set_option maxRecDepth 100000 in
set_option maxHeartbeats 8000000 in
theorem Compact_any (l : List Id) (h32 : W32 l) (v : Value) (w : World) (base : Nat) (ho : w.ownsRow base 23 32 v l.length (ix l)) :
    Calls Try.prog 69 #[v] w fun r w' => ∃ v', r = .returned v' ∧ w'.ownsRow base 23 32 v' (ddTo l l.length).length (ix (ddTo l l.length)) ∧ w.grownBy w' v.ownBlock := by
  by_cases h2 : l.length < 2
  · obtain ⟨A, c, rfl, -, -, -⟩ := (Rd.of_own ho).slice_
    have hd : decide ((l.length : Int) < 2) = true := decide_eq_true (by omega)
    rw [ddTo_all l.length (Nat.le_refl _) (fun j hj => by omega), List.take_of_length_le (Nat.le_refl _)]
    have Ho := Lib.hid ho
    clear ho
    go_enter Try.func69, Try.ntmps69
    go_wp2_with fail
    go_ret
    exact ⟨_, rfl, Ho.out, World.grownBy.refl _ _⟩
  obtain ⟨g, cap, cur, rfl, hbg, hg, hnc, hcm, hcl, hct⟩ := Ord.own_open ho (by omega)
  have hob : (Value.slice (some ⟨g, 0, none⟩) l.length cap).ownBlock = some g := rfl
  rw [hob]
  have hcm2 := hcm
  unfold maxLen at hcm2
  obtain ⟨n, hn⟩ : ∃ n, n = l.length := ⟨_, rfl⟩
  rw [← hn] at ho hnc hct h2 ⊢
  have Hg := Lib.hid hg
  have Hct := Lib.hid hct
  have Ho := Lib.hid ho
  have H32 := Lib.hid h32
  have Hn := Lib.hid hn
  have Hln := Lib.hid (fun j => ddTo_len l j)
  clear ho hg hct h32 hn
  have hd0 : decide ((n : Int) < 2) = false := decide_eq_false (by omega)
  go_enter Try.func69, Try.ntmps69
  go_wp2_with fail
  go_loopw [3] (fun i_ wr => ∃ k : Nat, 1 ≤ k ∧ k ≤ n ∧ i_ = .int .i64 (k : Int) ∧ Hid (∀ j, j + 1 < k → (l.getD (j + 1) [] == l.getD j []) = false) ∧ Below w.heap.size w wr) (fun i_ _ => n - (intOf i_).toNat)
  case atStart => exact ⟨1, by omega, by omega, rfl, Lib.hid (fun j hj => by omega), Below.refl _ _⟩
  case round =>
    obtain ⟨k, hk1, hk, rfl, Hs, hB⟩ := hrel
    by_cases hkn : k < n
    rotate_left
    · obtain rfl : k = n := by omega
      have hd1 : decide ((k : Int) < (k : Int)) = false := decide_eq_false (by omega)
      have He := Lib.hid (show ddTo l k = l by
        rw [ddTo_all k (by rw [← Hn.out]; exact Nat.le_refl _) Hs.out, List.take_of_length_le (by rw [← Hn.out]; exact Nat.le_refl _)])
      go_wp2_with fail
      go_ret
      refine ⟨_, rfl, ?_, grown_below hB _⟩
      rw [He.out, ← Hn.out]
      exact own_below Ho.out hB
    obtain ⟨m, hm⟩ : ∃ m, k = m + 1 := ⟨k - 1, by omega⟩
    have hd1 : decide ((k : Int) < (n : Int)) = true := decide_eq_true (by omega)
    have i0 : (0 : Int) ≤ (k : Int) := by omega
    have i1 : (k : Int) < (n : Int) := by omega
    have i2 : (0 : Int) ≤ (m : Int) := by omega
    have i3 : (m : Int) < (n : Int) := by omega
    have hmn : m < n := by omega
    have hw : IntKind.i64.wrap ((k : Int) - 1) = (m : Int) := by rw [IntKind.wrap_i64]; omega
    have hC := Lib.hid (show CR l cap wr g 0 cur from ⟨blk_below Hg.out hB, hcl, by simp [ddTo, ix, bs_nil], fun q h1 h2 => by
      rw [← Hct.out, List.getElem?_take, if_pos (by rw [← Hn.out] at h2; exact h2)]⟩)
    have hrX := hC.out.at_ H32.out (show 0 - 1 ≤ k by omega) (by rw [← Hn.out]; exact hkn)
    have hrY := hC.out.at_ H32.out (show 0 - 1 ≤ m by omega) (by rw [← Hn.out]; omega)
    have hxl := H32.out.get k (by rw [← Hn.out]; exact hkn)
    have hyl := H32.out.get m (by rw [← Hn.out]; omega)
    have Hs2 := Lib.hid (fun (h : (l.getD k [] == l.getD m []) = false) => show ∀ j, j + 1 < k + 1 → (l.getD (j + 1) [] == l.getD j []) = false from fun j hj => by
      by_cases e : j = m
      · subst e; rw [← hm]; exact h
      · exact Hs.out j (by omega))
    have Hsk := Lib.hid (fun (h : (l.getD k [] == l.getD m []) = true) => show ddTo l (k + 1) = l.take k by
      subst hm; rw [ddTo_skip h, ddTo_all (m + 1) (by rw [← Hn.out]; omega) Hs.out])
    have hq := fun W => Sha.eqlSum W _ _ hxl hyl
    generalize l.getD k [] = x at hrX hxl hq Hs2 Hsk
    generalize l.getD m [] = y at hrY hyl hq Hs2 Hsk
    generalize (x == y) = q at hq Hs2 Hsk
    obtain ⟨X, hX⟩ : ∃ X, X = bs x := ⟨_, rfl⟩
    obtain ⟨Y, hY⟩ : ∃ X, X = bs y := ⟨_, rfl⟩
    have Hi1 := Lib.hid (show (Try.prog.info? 23).map (·.size) = some X.length by rw [hX, bs_length, hxl]; rfl)
    have Hi2 := Lib.hid (show (Try.prog.info? 23).map (·.size) = some Y.length by rw [hY, bs_length, hyl]; rfl)
    rw [← hX] at hrX hq
    rw [← hY] at hrY hq
    have Hq := Lib.hid hq
    clear hq hX hY hxl hyl hm
    cases q
    · have Hs3 := Lib.hid (Hs2.out (by trivial))
      clear Hs2 Hsk
      go_wp2_with fail
      (refine Ord.wp_region_ord [(false, 0), (false, 1), (false, 2), (false, 3), (false, 4), (false, 5), (false, 6), (false, 7), (false, 8), (false, 9)] (fun W => W.rangeAt g (k * 32) X ∧ W.rangeAt g (m * 32) Y) (by kernel_rfl) (by kernel_rfl) (by kernel_rfl) (by kernel_rfl) (by exact ⟨hrX, hrY⟩) ?_; simp only [Ord.ordOps, List.filterMap_cons, List.filterMap_nil, List.getElem?_toArray, List.getElem?_cons_succ, List.getElem?_cons_zero, Option.map_some]; repeat (first | (refine Ord.wpOrd_skip ?_ ?_; (focus (go_simp; (try (intro h; cases h)); done)); simp only [Act.put, List.setIfInBounds_toArray, List.set_cons_zero, List.set_cons_succ]) | (refine Ord.wpOrd_take (v := ?_) ?_ ?_ ?_; rotate_left; (focus (go_simp; done)); (focus (intro w' hSw; (try dsimp only at hSw); go_simp; (try with_reducible rfl); done)); simp only [Act.put, List.setIfInBounds_toArray, List.set_cons_zero, List.set_cons_succ])))
      refine Ord.wpOrd_load_mid ?_ 23 _ rfl g (k * 32) rfl X _ (fun w h => h.1) Try.underlying23 rfl Hi1.out ?_
      focus (go_simp; done)
      ((try simp only [Act.put, List.setIfInBounds_toArray, List.set_cons_zero, List.set_cons_succ]); repeat (first | (refine Ord.wpOrd_skip ?_ ?_; (focus (go_simp; (try (intro h; cases h)); done)); simp only [Act.put, List.setIfInBounds_toArray, List.set_cons_zero, List.set_cons_succ]) | (refine Ord.wpOrd_take (v := ?_) ?_ ?_ ?_; rotate_left; (focus (go_simp; done)); (focus (intro w' hSw; (try dsimp only at hSw); go_simp; (try with_reducible rfl); done)); simp only [Act.put, List.setIfInBounds_toArray, List.set_cons_zero, List.set_cons_succ])))
      refine Ord.wpOrd_load_mid ?_ 23 _ rfl g (m * 32) rfl Y _ (fun w h => h.2) Try.underlying23 rfl Hi2.out ?_
      focus (go_simp; done)
      ((try simp only [Act.put, List.setIfInBounds_toArray, List.set_cons_zero, List.set_cons_succ]); repeat (first | (refine Ord.wpOrd_skip ?_ ?_; (focus (go_simp; (try (intro h; cases h)); done)); simp only [Act.put, List.setIfInBounds_toArray, List.set_cons_zero, List.set_cons_succ]) | (refine Ord.wpOrd_take (v := ?_) ?_ ?_ ?_; rotate_left; (focus (go_simp; done)); (focus (intro w' hSw; (try dsimp only at hSw); go_simp; (try with_reducible rfl); done)); simp only [Act.put, List.setIfInBounds_toArray, List.set_cons_zero, List.set_cons_succ])))
      refine Ord.wpOrd_bin ?_ .eql 23 _ _ _ rfl (.agg X.toArray) (.agg Y.toArray) (.bool false) rfl rfl (fun w' => run_eqGuard_agg w' _ _ _ _ _ _ (by kernel_rfl)) Hq.out ?_
      focus (go_simp; done)
      refine Ord.wpOrd_nil ?_
      go_wp2_with fail
      exact ⟨⟨k + 1, by omega, by omega, by go_num, Hs3, hB.drew⟩, by simp only [intOf]; omega⟩
    · have Hs3 := Lib.hid (Hsk.out (by trivial))
      clear Hs2 Hsk
      go_wp2_with fail
      (refine Ord.wp_region_ord [(false, 0), (false, 1), (false, 2), (false, 3), (false, 4), (false, 5), (false, 6), (false, 7), (false, 8), (false, 9)] (fun W => W.rangeAt g (k * 32) X ∧ W.rangeAt g (m * 32) Y) (by kernel_rfl) (by kernel_rfl) (by kernel_rfl) (by kernel_rfl) (by exact ⟨hrX, hrY⟩) ?_; simp only [Ord.ordOps, List.filterMap_cons, List.filterMap_nil, List.getElem?_toArray, List.getElem?_cons_succ, List.getElem?_cons_zero, Option.map_some]; repeat (first | (refine Ord.wpOrd_skip ?_ ?_; (focus (go_simp; (try (intro h; cases h)); done)); simp only [Act.put, List.setIfInBounds_toArray, List.set_cons_zero, List.set_cons_succ]) | (refine Ord.wpOrd_take (v := ?_) ?_ ?_ ?_; rotate_left; (focus (go_simp; done)); (focus (intro w' hSw; (try dsimp only at hSw); go_simp; (try with_reducible rfl); done)); simp only [Act.put, List.setIfInBounds_toArray, List.set_cons_zero, List.set_cons_succ])))
      refine Ord.wpOrd_load_mid ?_ 23 _ rfl g (k * 32) rfl X _ (fun w h => h.1) Try.underlying23 rfl Hi1.out ?_
      focus (go_simp; done)
      ((try simp only [Act.put, List.setIfInBounds_toArray, List.set_cons_zero, List.set_cons_succ]); repeat (first | (refine Ord.wpOrd_skip ?_ ?_; (focus (go_simp; (try (intro h; cases h)); done)); simp only [Act.put, List.setIfInBounds_toArray, List.set_cons_zero, List.set_cons_succ]) | (refine Ord.wpOrd_take (v := ?_) ?_ ?_ ?_; rotate_left; (focus (go_simp; done)); (focus (intro w' hSw; (try dsimp only at hSw); go_simp; (try with_reducible rfl); done)); simp only [Act.put, List.setIfInBounds_toArray, List.set_cons_zero, List.set_cons_succ])))
      refine Ord.wpOrd_load_mid ?_ 23 _ rfl g (m * 32) rfl Y _ (fun w h => h.2) Try.underlying23 rfl Hi2.out ?_
      focus (go_simp; done)
      ((try simp only [Act.put, List.setIfInBounds_toArray, List.set_cons_zero, List.set_cons_succ]); repeat (first | (refine Ord.wpOrd_skip ?_ ?_; (focus (go_simp; (try (intro h; cases h)); done)); simp only [Act.put, List.setIfInBounds_toArray, List.set_cons_zero, List.set_cons_succ]) | (refine Ord.wpOrd_take (v := ?_) ?_ ?_ ?_; rotate_left; (focus (go_simp; done)); (focus (intro w' hSw; (try dsimp only at hSw); go_simp; (try with_reducible rfl); done)); simp only [Act.put, List.setIfInBounds_toArray, List.set_cons_zero, List.set_cons_succ])))
      refine Ord.wpOrd_bin ?_ .eql 23 _ _ _ rfl (.agg X.toArray) (.agg Y.toArray) (.bool true) rfl rfl (fun w' => run_eqGuard_agg w' _ _ _ _ _ _ (by kernel_rfl)) Hq.out ?_
      focus (go_simp; done)
      refine Ord.wpOrd_nil ?_
      have i4 : (k : Int) ≤ (n : Int) := by omega
      go_wp2_with fail
      have Hgr0 := Lib.hid (show w.grownBy wr.drew (some g) from grown_below hB.drew _)
      have HC0 := Lib.hid (show CR l cap wr.drew g (k + 1) cur from by
        have h := hC.out.below (Below.refl _ _).drew
        refine ⟨h.hp, h.ln, ?_, fun q h1 h2 => h.bk q (by omega) h2⟩
        rw [Hs3.out, ← ix_takeR H32.out k (by rw [← Hn.out]; omega), ← Hct.out, List.take_take, List.length_take, ← Hn.out]
        congr 1; omega)
      have Hi0 := Lib.hid (show k = (ddTo l (k + 1)).length by rw [Hs3.out, List.length_take, ← Hn.out]; omega)
      clear hC hrX hrY Hi1 Hi2 Hq Hs3 Hs hw
      clear i2 i3
      go_loopw [3, 5] (fun i_ j_ wx => ∃ (i j : Nat) (cur' : List Value), 1 ≤ j ∧ k + j ≤ n ∧ i < k + j ∧ i_ = .int .i64 (i : Int) ∧ j_ = .int .i64 (j : Int) ∧ Hid (i = (ddTo l (k + j)).length) ∧ Hid (CR l cap wx g (k + j) cur') ∧ Hid (w.grownBy wx (some g))) (fun _ j_ _ => n - k - (intOf j_).toNat)
      case atStart => exact ⟨k, 1, cur, by omega, by omega, by omega, rfl, rfl, Hi0, HC0, Hgr0⟩
      case round =>
        clear HC0 Hgr0 Hi0
        obtain ⟨i, j, cur', hj1, hjn, hij, rfl, rfl, Hi, HC, Hgr⟩ := hrel
        by_cases hjk : k + j < n
        rotate_left
        · have hd2 : decide ((j : Int) < ((n - k : Nat) : Int)) = false := decide_eq_false (by omega)
          have hnk : k + j = n := by omega
          have hD := HC.out
          have hi := Hi.out
          rw [hnk] at hD hi hij
          have hfr := hD.fr
          rw [← hi] at hfr
          have hcl2 : ∀ ty, (Builtin.clear_ #[33] ty #[.slice (some ⟨g, i * 32, none⟩) (n - i) (cap - i)]).run Try.prog wr = .ok (.tuple #[]) (wr.setRow g (cur'.take (i * 32) ++ (Builtin.zeroCells zsumv.cells (n - i)).toList ++ cur'.drop (i * 32 + (Builtin.zeroCells zsumv.cells (n - i)).toList.length)).toArray) := fun ty =>
            Ord.run_clear_ids wr _ ty 23 zsumv g (i * 32) (n - i) (cap - i) cur' 23 Try.underlying33 zsumv_run (by omega) hD.hp (by rw [zsumv_size, hD.ln]; omega) (zsumv_one _)
          have hzl : (Builtin.zeroCells zsumv.cells (n - i)).toList.length = (n - i) * 32 := by rw [Array.length_toList, zsumv_size]
          obtain ⟨N, hN⟩ : ∃ N, N = cur'.take (i * 32) ++ (Builtin.zeroCells zsumv.cells (n - i)).toList ++ cur'.drop (i * 32 + (Builtin.zeroCells zsumv.cells (n - i)).toList.length) := ⟨_, rfl⟩
          rw [← hN] at hcl2
          have hln := hD.ln
          have hNl : N.length = cap * 32 := by rw [hN]; simp only [List.length_append, List.length_take, List.length_drop, hzl]; omega
          have hNt : N.take (i * 32) = ix (ddTo l n) := by
            rw [hN, List.append_assoc, List.take_left' (by rw [List.length_take]; omega)]; exact hfr
          have Hcl2 := Lib.hid hcl2
          have hg4 : (wr.setRow g N.toArray).heap[g]? = some (.cells N.toArray 23 (0, 0)) := setRow_heap wr g _ _ _ _ hD.hp
          have Hown := Lib.hid (show (wr.setRow g N.toArray).ownsRow base 23 32 (.slice (some ⟨g, 0, none⟩) i cap) i (ix (ddTo l n)) from Ord.own_shut hbg hg4 (by omega) hcm hNl hNt)
          have Hgr4 := Lib.hid (show w.grownBy (wr.setRow g N.toArray) (some g) from Hgr.out.trans (Ord.setRow_grown _ _ _))
          have Hi2 := Lib.hid hi
          have hin : (i : Int) ≤ (n : Int) := by omega
          have hcn : ¬ cap = i := by omega
          clear hcl2 hg4 hNt hNl hN hzl hfr hD hi Hi HC Hgr hln hnk
          go_wp2_with (refine Ord.wpList_clear_ids wr rfl (.tmp 56) 33 rfl (.slice (some ⟨g, i * 32, none⟩) (n - i) (cap - i)) rfl (Hcl2.out _) ?_)
          go_ret
          exact ⟨_, rfl, by rw [← Hi2.out]; exact Hown.out, Hgr4.out⟩
        obtain ⟨m2, hm2⟩ : ∃ m2, j = m2 + 1 := ⟨j - 1, by omega⟩
        have hd2 : decide ((j : Int) < ((n - k : Nat) : Int)) = true := decide_eq_true (by omega)
        have j0 : (0 : Int) ≤ (j : Int) := by omega
        have j1 : (j : Int) < ((n - k : Nat) : Int) := by omega
        have j2 : (0 : Int) ≤ (m2 : Int) := by omega
        have j3 : (m2 : Int) < ((n - k : Nat) : Int) := by omega
        have j4 : (0 : Int) ≤ (i : Int) := by omega
        have j5 : (i : Int) < (n : Int) := by omega
        have hw2 : IntKind.i64.wrap ((j : Int) - 1) = (m2 : Int) := by rw [IntKind.wrap_i64]; omega
        have hD := HC.out.below (Below.refl _ _).drew
        have hrX := HC.out.at_ H32.out (show k + j - 1 ≤ k + j by omega) (by rw [← Hn.out]; exact hjk)
        have hrY := HC.out.at_ H32.out (show k + j - 1 ≤ k + m2 by omega) (by rw [← Hn.out]; omega)
        have hxl := H32.out.get (k + j) (by rw [← Hn.out]; exact hjk)
        have hyl := H32.out.get (k + m2) (by rw [← Hn.out]; omega)
        have Hsk := Lib.hid (show (l.getD (k + j) [] == l.getD (k + m2) []) = true → CR l cap wr.drew g (k + (j + 1)) cur' ∧ i = (ddTo l (k + (j + 1))).length from by
          have hi := Hi.out
          subst hm2
          intro h
          refine ⟨CR.skip (p := k + m2) hD h, ?_⟩
          rw [hi]
          exact congrArg List.length (ddTo_skip (l := l) (j := k + m2) h).symm)
        have Hke := Lib.hid (show (l.getD (k + j) [] == l.getD (k + m2) []) = false → CR l cap (wr.drew.setCells g (i * 32) (bs (l.getD (k + j) []))) g (k + (j + 1)) (splice cur' (i * 32) (bs (l.getD (k + j) []))) ∧ i + 1 = (ddTo l (k + (j + 1))).length from by
          have hi := Hi.out
          subst hm2
          intro h
          have h1 := CR.keep (p := k + m2) hD H32.out (by rw [← Hn.out]; omega) (by rw [← Hn.out]; exact hnc) (by rw [show k + m2 + 1 = k + (m2 + 1) from rfl, ← hi]; omega) h
          rw [show k + m2 + 1 = k + (m2 + 1) from rfl, ← hi] at h1
          refine ⟨h1, ?_⟩
          have h2 := congrArg List.length (ddTo_keep (l := l) (j := k + m2) h)
          rw [List.length_append, List.length_singleton, show k + m2 + 1 = k + (m2 + 1) from rfl, ← hi] at h2
          exact h2.symm)
        have hth : wr.drew.there g (i * 32) 32 := fun q hq => by
          have hln := hD.ln
          rw [blk_cell hD.hp]
          simp only [List.getElem?_toArray]
          rw [List.getElem?_eq_getElem (by omega)]
          exact ⟨rfl, blk_frozen hD.hp _⟩
        have hq := fun W => Sha.neqSum W _ _ hxl hyl
        rw [Nat.add_mul] at hrX hrY
        generalize l.getD (k + j) [] = x2 at hrX hxl hq Hsk Hke
        generalize l.getD (k + m2) [] = y2 at hrY hyl hq Hsk Hke
        generalize (x2 == y2) = q at hq Hsk Hke
        obtain ⟨X2, hX⟩ : ∃ X, X = bs x2 := ⟨_, rfl⟩
        obtain ⟨Y2, hY⟩ : ∃ X, X = bs y2 := ⟨_, rfl⟩
        have hXl : X2.length = 32 := by rw [hX, bs_length, hxl]
        have Hi1 := Lib.hid (show (Try.prog.info? 23).map (·.size) = some X2.length by rw [hX, bs_length, hxl]; rfl)
        have Hi2 := Lib.hid (show (Try.prog.info? 23).map (·.size) = some Y2.length by rw [hY, bs_length, hyl]; rfl)
        have Hone := Lib.hid (show X2.toArray.all (·.oneCell') = true by rw [hX]; exact all_oneCell_toArray (bs_oneCell x2))
        rw [← hX] at hrX hq Hke
        rw [← hY] at hrY hq
        have hrX2 : wr.drew.rangeAt g (k * 32 + j * 32) X2 := hrX
        have Hr2 := Lib.hid hrX2
        have Hth := Lib.hid (show wr.drew.there g (i * 32) X2.toArray.size by rw [List.size_toArray, hXl]; exact hth)
        have Hq := Lib.hid hq
        clear hq hX hY hxl hyl hm2 hD hth hrX2 hXl
        cases q
        · have Hk := Lib.hid (Hke.out (by trivial))
          clear Hsk Hke
          go_wp2_with fail
          (refine Ord.wp_region_ord [(false, 0), (false, 1), (false, 2), (false, 3), (false, 4), (false, 5), (false, 6), (false, 7), (false, 8), (false, 9)] (fun W => W.rangeAt g (k * 32 + j * 32) X2 ∧ W.rangeAt g (k * 32 + m2 * 32) Y2) (by kernel_rfl) (by kernel_rfl) (by kernel_rfl) (by kernel_rfl) (by exact ⟨hrX, hrY⟩) ?_; simp only [Ord.ordOps, List.filterMap_cons, List.filterMap_nil, List.getElem?_toArray, List.getElem?_cons_succ, List.getElem?_cons_zero, Option.map_some]; repeat (first | (refine Ord.wpOrd_skip ?_ ?_; (focus (go_simp; (try (intro h; cases h)); done)); simp only [Act.put, List.setIfInBounds_toArray, List.set_cons_zero, List.set_cons_succ]) | (refine Ord.wpOrd_take (v := ?_) ?_ ?_ ?_; rotate_left; (focus (go_simp; done)); (focus (intro w' hSw; (try dsimp only at hSw); go_simp; (try with_reducible rfl); done)); simp only [Act.put, List.setIfInBounds_toArray, List.set_cons_zero, List.set_cons_succ])))
          refine Ord.wpOrd_load_mid ?_ 23 _ rfl g (k * 32 + j * 32) rfl X2 _ (fun w h => h.1) Try.underlying23 rfl Hi1.out ?_
          focus (go_simp; done)
          ((try simp only [Act.put, List.setIfInBounds_toArray, List.set_cons_zero, List.set_cons_succ]); repeat (first | (refine Ord.wpOrd_skip ?_ ?_; (focus (go_simp; (try (intro h; cases h)); done)); simp only [Act.put, List.setIfInBounds_toArray, List.set_cons_zero, List.set_cons_succ]) | (refine Ord.wpOrd_take (v := ?_) ?_ ?_ ?_; rotate_left; (focus (go_simp; done)); (focus (intro w' hSw; (try dsimp only at hSw); go_simp; (try with_reducible rfl); done)); simp only [Act.put, List.setIfInBounds_toArray, List.set_cons_zero, List.set_cons_succ])))
          refine Ord.wpOrd_load_mid ?_ 23 _ rfl g (k * 32 + m2 * 32) rfl Y2 _ (fun w h => h.2) Try.underlying23 rfl Hi2.out ?_
          focus (go_simp; done)
          ((try simp only [Act.put, List.setIfInBounds_toArray, List.set_cons_zero, List.set_cons_succ]); repeat (first | (refine Ord.wpOrd_skip ?_ ?_; (focus (go_simp; (try (intro h; cases h)); done)); simp only [Act.put, List.setIfInBounds_toArray, List.set_cons_zero, List.set_cons_succ]) | (refine Ord.wpOrd_take (v := ?_) ?_ ?_ ?_; rotate_left; (focus (go_simp; done)); (focus (intro w' hSw; (try dsimp only at hSw); go_simp; (try with_reducible rfl); done)); simp only [Act.put, List.setIfInBounds_toArray, List.set_cons_zero, List.set_cons_succ])))
          refine Ord.wpOrd_bin ?_ .neq 23 _ _ _ rfl (.agg X2.toArray) (.agg Y2.toArray) (.bool true) rfl rfl (fun w' => run_eqGuard_agg w' _ _ _ _ _ _ (by kernel_rfl)) Hq.out ?_
          focus (go_simp; done)
          refine Ord.wpOrd_nil ?_
          go_wp2_with (first
            | (refine wpList_load_mid rfl 23 _ rfl g (k * 32 + j * 32) rfl X2 _ Hr2.out Try.underlying23 rfl Hi1.out ?_)
            | (refine wpList_store_mid rfl 23 _ _ rfl g (i * 32) X2.toArray rfl rfl Hth.out (by rw [List.size_toArray]; exact Hi1.out) Hone.out ?_))
          exact ⟨⟨i + 1, j + 1, _, by omega, by omega, by omega, by go_num, by go_num, Lib.hid Hk.out.2, Lib.hid Hk.out.1, Lib.hid ((Hgr.out.trans (grown_below (Below.refl _ _).drew _)).trans (Sha.grown_cells _ _ _ _))⟩, by simp only [intOf]; omega⟩
        · have Hk := Lib.hid (Hsk.out (by trivial))
          clear Hsk Hke
          go_wp2_with fail
          (refine Ord.wp_region_ord [(false, 0), (false, 1), (false, 2), (false, 3), (false, 4), (false, 5), (false, 6), (false, 7), (false, 8), (false, 9)] (fun W => W.rangeAt g (k * 32 + j * 32) X2 ∧ W.rangeAt g (k * 32 + m2 * 32) Y2) (by kernel_rfl) (by kernel_rfl) (by kernel_rfl) (by kernel_rfl) (by exact ⟨hrX, hrY⟩) ?_; simp only [Ord.ordOps, List.filterMap_cons, List.filterMap_nil, List.getElem?_toArray, List.getElem?_cons_succ, List.getElem?_cons_zero, Option.map_some]; repeat (first | (refine Ord.wpOrd_skip ?_ ?_; (focus (go_simp; (try (intro h; cases h)); done)); simp only [Act.put, List.setIfInBounds_toArray, List.set_cons_zero, List.set_cons_succ]) | (refine Ord.wpOrd_take (v := ?_) ?_ ?_ ?_; rotate_left; (focus (go_simp; done)); (focus (intro w' hSw; (try dsimp only at hSw); go_simp; (try with_reducible rfl); done)); simp only [Act.put, List.setIfInBounds_toArray, List.set_cons_zero, List.set_cons_succ])))
          refine Ord.wpOrd_load_mid ?_ 23 _ rfl g (k * 32 + j * 32) rfl X2 _ (fun w h => h.1) Try.underlying23 rfl Hi1.out ?_
          focus (go_simp; done)
          ((try simp only [Act.put, List.setIfInBounds_toArray, List.set_cons_zero, List.set_cons_succ]); repeat (first | (refine Ord.wpOrd_skip ?_ ?_; (focus (go_simp; (try (intro h; cases h)); done)); simp only [Act.put, List.setIfInBounds_toArray, List.set_cons_zero, List.set_cons_succ]) | (refine Ord.wpOrd_take (v := ?_) ?_ ?_ ?_; rotate_left; (focus (go_simp; done)); (focus (intro w' hSw; (try dsimp only at hSw); go_simp; (try with_reducible rfl); done)); simp only [Act.put, List.setIfInBounds_toArray, List.set_cons_zero, List.set_cons_succ])))
          refine Ord.wpOrd_load_mid ?_ 23 _ rfl g (k * 32 + m2 * 32) rfl Y2 _ (fun w h => h.2) Try.underlying23 rfl Hi2.out ?_
          focus (go_simp; done)
          ((try simp only [Act.put, List.setIfInBounds_toArray, List.set_cons_zero, List.set_cons_succ]); repeat (first | (refine Ord.wpOrd_skip ?_ ?_; (focus (go_simp; (try (intro h; cases h)); done)); simp only [Act.put, List.setIfInBounds_toArray, List.set_cons_zero, List.set_cons_succ]) | (refine Ord.wpOrd_take (v := ?_) ?_ ?_ ?_; rotate_left; (focus (go_simp; done)); (focus (intro w' hSw; (try dsimp only at hSw); go_simp; (try with_reducible rfl); done)); simp only [Act.put, List.setIfInBounds_toArray, List.set_cons_zero, List.set_cons_succ])))
          refine Ord.wpOrd_bin ?_ .neq 23 _ _ _ rfl (.agg X2.toArray) (.agg Y2.toArray) (.bool false) rfl rfl (fun w' => run_eqGuard_agg w' _ _ _ _ _ _ (by kernel_rfl)) Hq.out ?_
          focus (go_simp; done)
          refine Ord.wpOrd_nil ?_
          go_wp2_with fail
          exact ⟨⟨i, j + 1, cur', by omega, by omega, by omega, rfl, by go_num, Lib.hid Hk.out.2, Lib.hid Hk.out.1, Lib.hid (Hgr.out.trans (grown_below (Below.refl _ _).drew _))⟩, by simp only [intOf]; omega⟩
end Go.Proofs.Ytpldkplfdbjidaa.Ids
