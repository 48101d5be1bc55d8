/- volume.Volume.Kin, walked. -/
import Derived.Test.YtcjabfdjngekfaaVolKin
set_option linter.unusedVariables false
set_option linter.unusedSimpArgs false
namespace Go.Proofs.Ytcjabfdjngekfaa.Vol
open Go.RowKit Go.Proofs.Ytcjabfdjngekfaa.Wd Go.Proofs.Ytcjabfdjngekfaa.EqF

theorem VIn.below {w w1 : World} {v : V} {vp : Value} (h : VIn w v vp) (hb : Below w.heap.size w w1) : VIn w1 v vp := ⟨h.bd, h.ix, h.dt, h.mr, h.lg, h.pc.below hb⟩
theorem VIn.zero (w : World) : VIn w V.zero (.slice none 0 0) := ⟨rfl, by show I64 0; unfold I64; omega, by show I64 0; unfold I64; omega, by show I64 0; unfold I64; omega, by show I64 0; unfold I64; omega, Rd.nil _ _⟩
theorem range_all {W : World} {g : Nat} {cs : List Value} {t : TypeId} (h : W.heap[g]? = some (.cells cs.toArray t (0, 0))) : W.rangeAt g 0 cs := fun j u hu => by rw [Nat.zero_add, blk_cell h j]; simpa using hu
set_option maxRecDepth 100000 in
set_option maxHeartbeats 1000000 in
theorem kin_any (a b : V) (va vb : Value) (w : World) (ha : VIn w a va) (hb : VIn w b vb) : Calls Try.prog 30 #[.agg (vcells a va).toArray, .agg (vcells b vb).toArray] w fun e w' => e = .returned (.bool (kin a b)) ∧ Below w.heap.size w w' := by
  have Hla : Hid ((Try.prog.info? 46).map (·.size) = some (vcells a va).length) := by show _ = _; rw [vcells_length _ _ ha.bd]; exact infoVol
  have Hlb : Hid ((Try.prog.info? 46).map (·.size) = some (vcells b vb).length) := by show _ = _; rw [vcells_length _ _ hb.bd]; exact infoVol
  have hca : ∀ W, Below w.heap.size w W → Calls Try.prog 90 #[.agg (vcells a va).toArray] W fun e w' => e = .returned (.agg (ccells a).toArray) ∧ Below W.heap.size W w' := fun W h => cut_any a va W W (ha.below h)
  have hcb : ∀ W, Below w.heap.size w W → Calls Try.prog 90 #[.agg (vcells b vb).toArray] W fun e w' => e = .returned (.agg (ccells b).toArray) ∧ Below W.heap.size W w' := fun W h => cut_any b vb W W (hb.below h)
  have hq := fun W => eqlCut W a b ha.bd hb.bd
  obtain ⟨A, hA⟩ : ∃ L, L = vcells a va := ⟨_, rfl⟩
  obtain ⟨B, hB⟩ : ∃ L, L = vcells b vb := ⟨_, rfl⟩
  obtain ⟨CA, hCA⟩ : ∃ L, L = ccells a := ⟨_, rfl⟩
  obtain ⟨CB, hCB⟩ : ∃ L, L = ccells b := ⟨_, rfl⟩
  obtain ⟨k, hk⟩ : ∃ k, k = kin a b := ⟨_, rfl⟩
  rw [← hA] at hca Hla ⊢
  rw [← hB] at hcb Hlb ⊢
  rw [← hCA] at hca hq
  rw [← hCB] at hcb hq
  rw [← hk] at hq ⊢
  have Hca := Lib.hid hca
  have Hcb := Lib.hid hcb
  have Hq := Lib.hid hq
  clear hca hcb hq hA hB hCA hCB hk ha hb
  obtain ⟨W0, hW0⟩ : ∃ W, W = (w.alloc (.cells A.toArray 46)).alloc (.cells B.toArray 46) := ⟨_, rfl⟩
  have g1 : W0.heap[w.heap.size]? = some (.cells A.toArray 46 (0, 0)) := by rw [hW0]; exact blk_alloc (heap_alloc_new _ _) _
  have g2 : W0.heap[w.heap.size + 1]? = some (.cells B.toArray 46 (0, 0)) := by rw [hW0]; exact alloc_at _ _ _
  have hB0 : Below w.heap.size w W0 := by rw [hW0]; exact below_two _ _ _
  have r1 : ∀ W, Below W0.heap.size W0 W → W.rangeAt w.heap.size 0 A := fun W hW => range_all (blk_below g1 hW)
  have r2 : ∀ W, Below W0.heap.size W0 W → W.rangeAt (w.heap.size + 1) 0 B := fun W hW => range_all (blk_below g2 hW)
  have HW0 := Lib.hid hW0
  have R1 := Lib.hid r1
  have R2 := Lib.hid r2
  have HB0 := Lib.hid hB0
  clear hW0 r1 r2 g1 g2 hB0
  go_enter Try.func30, Try.ntmps30
  go_wp2_with fail
  rw [← HW0.out]
  (refine Ord.wp_region_ord [(false, 0), (false, 2), (true, 1), (true, 3), (false, 4), (false, 5)] (fun w' => Below W0.heap.size W0 w') (by kernel_rfl) (by kernel_rfl) (by kernel_rfl) (by kernel_rfl) (by exact (Below.refl _ _).drew) ?_; simp only [Ord.ordOps, List.filterMap_cons, List.filterMap_nil, List.getElem?_toArray, List.getElem?_cons_succ, List.getElem?_cons_zero, Option.map_some]; repeat (first | (refine Ord.wpOrd_skip ?_ ?_; (focus (go_simp; (try (intro h; cases h)); done)); simp only [Act.put, List.setIfInBounds_toArray, List.set_cons_zero, List.set_cons_succ]) | (refine Ord.wpOrd_take (v := ?_) ?_ ?_ ?_; rotate_left; (focus (go_simp; done)); (focus (intro w' hSw; (try dsimp only at hSw); go_simp; (try with_reducible rfl); done)); simp only [Act.put, List.setIfInBounds_toArray, List.set_cons_zero, List.set_cons_succ])))
  refine Ord.wpOrd_load_mid ?_ 46 _ rfl w.heap.size 0 rfl A _ R1.out Try.underlying46 rfl Hla.out ?_
  · go_simp
  ((try simp only [Act.put, List.setIfInBounds_toArray, List.set_cons_zero, List.set_cons_succ]); repeat (first | (refine Ord.wpOrd_skip ?_ ?_; (focus (go_simp; (try (intro h; cases h)); done)); simp only [Act.put, List.setIfInBounds_toArray, List.set_cons_zero, List.set_cons_succ]) | (refine Ord.wpOrd_take (v := ?_) ?_ ?_ ?_; rotate_left; (focus (go_simp; done)); (focus (intro w' hSw; (try dsimp only at hSw); go_simp; (try with_reducible rfl); done)); simp only [Act.put, List.setIfInBounds_toArray, List.set_cons_zero, List.set_cons_succ])))
  refine Ord.wpOrd_load_mid ?_ 46 _ rfl (w.heap.size + 1) 0 rfl B _ R2.out Try.underlying46 rfl Hlb.out ?_
  · go_simp
  ((try simp only [Act.put, List.setIfInBounds_toArray, List.set_cons_zero, List.set_cons_succ]); repeat (first | (refine Ord.wpOrd_skip ?_ ?_; (focus (go_simp; (try (intro h; cases h)); done)); simp only [Act.put, List.setIfInBounds_toArray, List.set_cons_zero, List.set_cons_succ]) | (refine Ord.wpOrd_take (v := ?_) ?_ ?_ ?_; rotate_left; (focus (go_simp; done)); (focus (intro w' hSw; (try dsimp only at hSw); go_simp; (try with_reducible rfl); done)); simp only [Act.put, List.setIfInBounds_toArray, List.set_cons_zero, List.set_cons_succ])))
  (refine Ord.wpOrd_call ?_ (fun K hK => ?_); (focus (go_simp; done)); go_simp)
  go_at_call 90
  refine (Hca.out _ HB0.out.drew).mono ?_
  rintro e w1 ⟨rfl, hb1⟩
  have hb2 := (Below.refl W0.heap.size W0).drew.trans (hb1.mono (Nat.le_refl _))
  clear hb1
  (refine hK _ _ (by exact hb2) ?_; clear hK K; (try simp only [Act.put, List.setIfInBounds_toArray, List.set_cons_zero, List.set_cons_succ]); repeat (first | (refine Ord.wpOrd_skip ?_ ?_; (focus (go_simp; (try (intro h; cases h)); done)); simp only [Act.put, List.setIfInBounds_toArray, List.set_cons_zero, List.set_cons_succ]) | (refine Ord.wpOrd_take (v := ?_) ?_ ?_ ?_; rotate_left; (focus (go_simp; done)); (focus (intro w' hSw; (try dsimp only at hSw); go_simp; (try with_reducible rfl); done)); simp only [Act.put, List.setIfInBounds_toArray, List.set_cons_zero, List.set_cons_succ])))
  (refine Ord.wpOrd_call ?_ (fun K hK => ?_); (focus (go_simp; done)); go_simp)
  go_at_call 90
  refine (Hcb.out _ (below_then HB0.out HB0.out.size hb2)).mono ?_
  rintro e w2 ⟨rfl, hb1⟩
  have hb3 := below_then hb2 hb2.size hb1
  clear hb1 hb2
  (refine hK _ _ (by exact hb3) ?_; clear hK K; (try simp only [Act.put, List.setIfInBounds_toArray, List.set_cons_zero, List.set_cons_succ]); repeat (first | (refine Ord.wpOrd_skip ?_ ?_; (focus (go_simp; (try (intro h; cases h)); done)); simp only [Act.put, List.setIfInBounds_toArray, List.set_cons_zero, List.set_cons_succ]) | (refine Ord.wpOrd_take (v := ?_) ?_ ?_ ?_; rotate_left; (focus (go_simp; done)); (focus (intro w' hSw; (try dsimp only at hSw); go_simp; (try with_reducible rfl); done)); simp only [Act.put, List.setIfInBounds_toArray, List.set_cons_zero, List.set_cons_succ])))
  refine Ord.wpOrd_bin ?_ .eql 132 _ _ _ rfl (.agg CA.toArray) (.agg CB.toArray) (.bool k) rfl rfl (fun w' => run_eqGuard_agg w' _ _ _ _ _ _ (by kernel_rfl)) Hq.out ?_
  · go_simp
  ((try simp only [Act.put, List.setIfInBounds_toArray, List.set_cons_zero, List.set_cons_succ]); repeat (first | (refine Ord.wpOrd_skip ?_ ?_; (focus (go_simp; (try (intro h; cases h)); done)); simp only [Act.put, List.setIfInBounds_toArray, List.set_cons_zero, List.set_cons_succ]) | (refine Ord.wpOrd_take (v := ?_) ?_ ?_ ?_; rotate_left; (focus (go_simp; done)); (focus (intro w' hSw; (try dsimp only at hSw); go_simp; (try with_reducible rfl); done)); simp only [Act.put, List.setIfInBounds_toArray, List.set_cons_zero, List.set_cons_succ])))
  refine Ord.wpOrd_nil ?_
  go_wp2
  go_ret
  exact ⟨rfl, below_then HB0.out HB0.out.size hb3⟩
end Go.Proofs.Ytcjabfdjngekfaa.Vol
