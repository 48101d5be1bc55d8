/- Walks of layer 26: an envelope is read of bytes. -/
import Derived.Test.YtcjabfdjngekfaaRelW4
import Derived.StillTailTactics
set_option linter.unusedVariables false
set_option linter.unusedSimpArgs false
namespace Go.Proofs.Ytcjabfdjngekfaa.Rel
open Go.RowKit Go.Proofs.Ytcjabfdjngekfaa.Wd Go.Proofs.Ytcjabfdjngekfaa.Use Go.Proofs.Ytcjabfdjngekfaa.Lay

/-- what a reading holds: the result's block, the reader's, the envelope's, its hops -/
structure RS (t : TypeId) (w W : World) (g : Nat) (O : Obj) (G : Nat) (hv : Value) (hops : List Int) (lim : Int) (s : ByteArray) : Prop where
  z : W.heap[w.heap.size]? = some (.cells #[.slice none 0 0, .int .i64 0, .string ⟨#[]⟩] t (0, 0))
  rd : W.heap[g]? = some O
  ev : W.heap[G]? = some (.cells #[hv, .int .i64 lim, .string s] t (0, 0))
  own : W.ownsRow (w.heap.size + 1) 3 1 hv hops.length (is hops)
  ng : hv.ownBlock ≠ some g
  nG : hv.ownBlock ≠ some G
  gG : g ≠ G
  lg : w.heap.size < g
  lG : w.heap.size < G
  b : Below w.heap.size w W
variable {t : TypeId} {w W W1 : World} {g : Nat} {O : Obj} {G : Nat} {hv : Value} {hops : List Int} {lim : Int} {s : ByteArray}
theorem RS.left (h : RS t w W g O G hv hops lim s) {O' : Obj} (h1 : W1.heap[g]? = some O') (hg : W.grownBy W1 (some g)) : RS t w W1 g O' G hv hops lim s :=
  ⟨blk_grown h.z hg (by intro e; injection e with e; have := h.lg; omega), h1, blk_grown h.ev hg (by intro e; injection e with e; exact h.gG e.symm), own_grown h.own hg (fun k hk e => by injection hk with hk; exact h.ng (by rw [e, hk])), h.ng, h.nG, h.gG, h.lg, h.lG, h.b.grown hg h.b.size (fun k hk => by injection hk with hk; have := h.lg; omega)⟩
theorem RS.drew (h : RS t w W g O G hv hops lim s) : RS t w W.drew g O G hv hops lim s := ⟨h.z, h.rd, h.ev, h.own, h.ng, h.nG, h.gG, h.lg, h.lG, h.b.drew⟩
theorem RS.below (h : RS t w W g O G hv hops lim s) (hb : Below W.heap.size W W1) : RS t w W1 g O G hv hops lim s :=
  ⟨blk_below h.z hb, blk_below h.rd hb, blk_below h.ev hb, own_below h.own hb, h.ng, h.nG, h.gG, h.lg, h.lG, below_go hb h.b⟩
theorem RS.app (h : RS t w W g O G hv hops lim s) {v1 : Value} {hops' : List Int} (ho : W1.ownsRow (w.heap.size + 1) 3 1 v1 hops'.length (is hops')) (hg : W.grownBy W1 hv.ownBlock) (hat : v1.ownBlock = hv.ownBlock ∨ ∃ b, v1.ownBlock = some b ∧ W.heap.size ≤ b) :
    RS t w (W1.setCell ⟨G, 0, none⟩ v1) g O G v1 hops' lim s := by
  have hlG := blk_lt h.ev
  have hlg := blk_lt h.rd
  have n1 : v1.ownBlock ≠ some G := by
    rcases hat with e | ⟨b, e, hb⟩
    · rw [e]; exact h.nG
    · rw [e]; intro e2; injection e2 with e2; omega
  have n2 : v1.ownBlock ≠ some g := by
    rcases hat with e | ⟨b, e, hb⟩
    · rw [e]; exact h.ng
    · rw [e]; intro e2; injection e2 with e2; omega
  have hz : some w.heap.size ≠ hv.ownBlock := fun e => by have := own_base h.own _ e.symm; omega
  refine ⟨blk_far (blk_grown h.z hg hz) (by have := h.lG; show w.heap.size ≠ G; omega) _, blk_far (blk_grown h.rd hg (fun e => h.ng e.symm)) h.gG _, ?_, own_grown ho (grown_setCell _ _ _ _) (fun k hk e => by injection hk with hk; exact n1 (by rw [e, hk])), n2, n1, h.gG, h.lg, h.lG, ?_⟩
  · exact blk_set (blk_grown h.ev hg (fun e => h.nG e.symm)) 0 v1
  · exact (h.b.grown hg h.b.size (fun k hk => by have := own_base h.own _ hk; omega)).setCell (by have := h.lG; show w.heap.size ≤ G; omega) _
theorem RS.set2 (h : RS t w W g O G hv hops lim s) (s' : ByteArray) : RS t w (W.setCell ⟨G, 2, none⟩ (.string s')) g O G hv hops lim s' :=
  ⟨blk_far h.z (by have := h.lG; show w.heap.size ≠ G; omega) _, blk_far h.rd h.gG _, blk_set h.ev 2 _, own_grown h.own (grown_setCell _ _ _ _) (fun k hk e => by injection hk with hk; exact h.nG (by rw [e, hk])), h.ng, h.nG, h.gG, h.lg, h.lG, h.b.setCell (by have := h.lG; show w.heap.size ≤ G; omega) _⟩
theorem RS.set1 (h : RS t w W g O G hv hops lim s) (n : Int) : RS t w (W.setCell ⟨G, 1, none⟩ (.int .i64 n)) g O G hv hops n s :=
  ⟨blk_far h.z (by have := h.lG; show w.heap.size ≠ G; omega) _, blk_far h.rd h.gG _, blk_set h.ev 1 _, own_grown h.own (grown_setCell _ _ _ _) (fun k hk e => by injection hk with hk; exact h.nG (by rw [e, hk])), h.ng, h.nG, h.gG, h.lg, h.lG, h.b.setCell (by have := h.lG; show w.heap.size ≤ G; omega) _⟩
theorem RS.cells (h : RS t w W g O G hv hops lim s) : W.cell? ⟨G, 0, none⟩ = some hv ∧ W.cell? ⟨G, 1, none⟩ = some (.int .i64 lim) ∧ W.cell? ⟨G, 2, none⟩ = some (.string s) := env_cells h.ev
theorem RS.slice (h : RS t w W g O G hv hops lim s) : ∃ A c, hv = .slice A hops.length c ∧ hops.length ≤ c := by
  obtain ⟨A, c, e, h1, -, -⟩ := (Rd.of_own h.own).slice_
  exact ⟨A, c, e, h1⟩
def RO (r : Rdr) : Obj := .cells #[.bool true, .string (str r.b), .int .i64 (r.bad : Int)] 194 (0, 0)
/-- the read envelope is one that may come in -/
theorem raw_in (s : List UInt8) (hs : s.length ≤ 100000) {W : World} {hv : Value} (h : Rd W 1 hv (E.raw s).hops.length (is (E.raw s).hops)) : EIn W (E.raw s) hv := by
  have e1 : I64 (((rd1 s).small 8).1 : Int) := by
    have := small_le (rd1 s) 8
    simp only [Int.cast_ofNat_Int] at this
    unfold I64; omega
  have e2 := rdHops_le (rdN s) (rd3 s)
  have e3 : ((rd4 s).text 65536).1.length ≤ 9223372036854775807 := by
    have h1 := small_le (rd4 s) 65536
    simp only [Int.cast_ofNat_Int] at h1
    have h2 : ∀ (r : Rdr) (n : Nat), (r.raw n).1.length ≤ n := by
      intro r n
      unfold Rdr.raw
      split
      · split
        · simp
        · split
          · simp
          · rw [Int.toNat_natCast]; exact List.length_take_le _ _
      · simp
    unfold Rdr.text
    have := h2 ((rd4 s).small 65536).2 ((rd4 s).small 65536).1
    omega
  refine ⟨h, ?_, ?_, ?_⟩
  · simp only [E.raw]; exact e1
  · simp only [E.raw]; intro x hx; have := e2 x hx; unfold I64; omega
  · simp only [E.raw]; exact e3
theorem ret_zero (s : List UInt8) (hs : E.good s = false) (c : Int) {W : World} {P : Prop} (hp : P) :
    ∃ hv, Ending.returned (.tuple #[.agg [.slice none 0 0, .int .i64 0, .string ⟨#[]⟩].toArray, .int .i64 c]) = Ending.returned (.tuple #[.agg #[hv, .int .i64 (E.read s).limit, .string (str (E.read s).inner)], .int .i64 c]) ∧ Rd W 1 hv (E.read s).hops.length (is (E.read s).hops) ∧ P := by
  have : E.read s = E.zero := by rw [E.read, hs]; rfl
  rw [this]
  exact ⟨_, rfl, Rd.nil _ _, hp⟩
def errR (s : List UInt8) : Int := if E.good s then 0 else 11
set_option maxRecDepth 100000 in
set_option maxHeartbeats 16000000 in
theorem read_any (s : List UInt8) (w : World) (hs : s.length ≤ 100000) : Calls Try.prog 40 #[.string (str s)] w fun e w' => ∃ hv, e = .returned (.tuple #[.agg #[hv, .int .i64 (E.read s).limit, .string (str (E.read s).inner)], .int .i64 (errR s)]) ∧ Rd w' 1 hv (E.read s).hops.length (is (E.read s).hops) ∧ Below w.heap.size w w' := by
  have hgo : E.good s = (decide (kindOf s = 3) && decide ((rd5 s).fin = 0) && (E.raw s).right) := rfl
  obtain ⟨kd, hkd⟩ : ∃ k, k = kindOf s := ⟨_, rfl⟩
  have hk1 : (Rdr.number ⟨s, 0⟩).1 = kd := hkd.symm
  have hk2 : (Rdr.number ⟨s, 0⟩).2 = rd1 s := rfl
  obtain ⟨lm, hlm⟩ : ∃ k, k = ((rd1 s).small 8).1 := ⟨_, rfl⟩
  have hl2 : ((rd1 s).small 8).2 = rd2 s := rfl
  have hlm8 : lm ≤ 8 := by rw [hlm]; exact small_le (rd1 s) 8
  obtain ⟨nn, hnn⟩ : ∃ k, k = rdN s := ⟨_, rfl⟩
  have hn2 : ((rd2 s).small 8).1 = nn := hnn.symm
  have hn3 : ((rd2 s).small 8).2 = rd3 s := rfl
  have hnn8 : nn ≤ 8 := by rw [hnn]; exact small_le (rd2 s) 8
  have hraw : E.raw s = ⟨(rdHops nn (rd3 s)).1, (lm : Int), ((rd4 s).text 65536).1⟩ := by rw [hnn, hlm]; rfl
  have hr4 : rd4 s = (rdHops nn (rd3 s)).2 := by rw [hnn]; rfl
  have h5 : ((rd4 s).text 65536).2 = rd5 s := rfl
  have hre := fun (W : World) (hv : Value) (h : Rd W 1 hv (E.raw s).hops.length (is (E.raw s).hops)) => raw_in s hs h
  have Hgo := Lib.hid hgo
  have Hraw := Lib.hid hraw
  have Hr4 := Lib.hid hr4
  have H5 := Lib.hid h5
  have Hre := Lib.hid hre
  have Hkd := Lib.hid hkd
  have hread := fun W => Read_any s W
  have hnum := fun W g (h : RdrAt W g ⟨s, 0⟩) => Number_any g ⟨s, 0⟩ W h
  simp only [hk1, hk2] at hnum
  have hsm1 := fun W g (h : RdrAt W g (rd1 s)) => Small_any g (rd1 s) 8 W h (by omega)
  simp only [← hlm, hl2] at hsm1
  have hsm2 := fun W g (h : RdrAt W g (rd2 s)) => Small_any g (rd2 s) 8 W h (by omega)
  simp only [hn2, hn3] at hsm2
  have Hread := Lib.hid hread
  have Hnum := Lib.hid hnum
  have Hsm1 := Lib.hid hsm1
  have Hsm2 := Lib.hid hsm2
  clear hgo hraw hr4 h5 hre hread hnum hsm1 hsm2 hlm hnn hk1 hk2 hl2 hn2 hn3 hkd
  go_enter Try.func40, Try.ntmps40
  go_upto_region 4 with (first
    | (go_at_call 102; refine (Hread.out _).mono ?_; rintro e w1 ⟨rfl, hr1, hb1⟩; rw [alloc_size] at hr1; have hz1 := Lib.hid (blk_below (heap_alloc_new w _) hb1); have hB1 := below_go hb1 (below_one w _); clear hb1)
    | (go_at_call 103; refine (Hnum.out _ _ hr1).mono ?_; rintro e w2 ⟨rfl, hr2, hg2⟩; have hz2 := Lib.hid (blk_grown hz1.out hg2 (by intro e; injection e with e; omega)); have hB2 := hB1.grown hg2 hB1.size (fun k hk => by injection hk with hk; omega); clear hg2)
    | (go_at_call 104; refine (Hsm1.out _ _ hr2).mono ?_; rintro e w3 ⟨rfl, hr3, hg3⟩; have hz3 := Lib.hid (blk_grown hz2.out hg3 (by intro e; injection e with e; omega)); have hB3 := hB2.grown hg3 hB2.size (fun k hk => by injection hk with hk; omega); clear hg3))
  have R3 : RS 56 w (w3.alloc (.cells #[.slice none 0 0, .int .i64 (lm : Int), .string ⟨#[]⟩] 56)) (w.heap.size + 1) (RO (rd2 s)) w3.heap.size (.slice none 0 0) [] (lm : Int) ⟨#[]⟩ :=
    ⟨blk_alloc hz3.out _, blk_alloc hr3 _, heap_alloc_new _ _, own_nil _ _ _ _, (by intro e; cases e), (by intro e; cases e), (by have := blk_lt hr3; omega), (by omega), (by have := blk_lt hr3; omega), hB3.alloc hB3.size _⟩
  generalize w3.heap.size = G at R3 ⊢
  generalize w3.alloc (.cells #[.slice none 0 0, .int .i64 (lm : Int), .string ⟨#[]⟩] 56) = w4 at R3 ⊢
  obtain ⟨g, hg⟩ : ∃ g, g = w.heap.size + 1 := ⟨_, rfl⟩
  rw [← hg] at R3
  simp only [← hg]
  clear hr1 hr2 hr3 hz1 hz2 hz3 hB1 hB2 hB3 hg
  have R3' := Lib.hid R3
  clear R3
  go_wp2_with (go_at_call 104; refine (Hsm2.out _ _ R3'.out.rd).mono ?_; rintro e w5 ⟨rfl, hr5, hg5⟩; have R5 := Lib.hid (R3'.out.left hr5 hg5); clear R3' hr5 hg5)
  go_loopw [7] (fun c wr => ∃ (k : Nat) (hv : Value), k ≤ nn ∧ c = .int .i64 ((nn : Int) - (k : Int)) ∧ RS 56 w wr g (RO (rdHops k (rd3 s)).2) G hv (rdHops k (rd3 s)).1 (lm : Int) ⟨#[]⟩) (fun c _ => (intOf c).toNat)
  case atStart => exact ⟨0, _, Nat.zero_le _, by simp, R5.out⟩
  case round =>
    clear R5
    obtain ⟨k, hv, hk, rfl, hR⟩ := hrel
    have hkl := rdHops_length k (rd3 s)
    obtain ⟨r, hr⟩ : ∃ r, r = (rdHops k (rd3 s)).2 := ⟨_, rfl⟩
    obtain ⟨hp, hhp⟩ : ∃ h, h = (rdHops k (rd3 s)).1 := ⟨_, rfl⟩
    rw [← hr, ← hhp] at hR
    rw [← hhp] at hkl
    have HR := Lib.hid hR
    obtain ⟨A, c, rfl, hAc⟩ := hR.slice
    rw [hkl] at hAc
    obtain ⟨c0, c1, c2⟩ := hR.cells
    rw [hkl] at c0
    have f0 := blk_frozen hR.ev 0
    have Hr := Lib.hid hr
    have Hhp := Lib.hid hhp
    have Hkl := Lib.hid hkl
    clear hR hr hhp hkl
    by_cases hkn : k < nn
    · have hcd : decide ((0 : Int) < (nn : Int) - (k : Int)) = true := decide_eq_true (by omega)
      obtain ⟨x, hx⟩ : ∃ x, x = (r.small 15).1 := ⟨_, rfl⟩
      obtain ⟨r', hr'⟩ : ∃ r', r' = (r.small 15).2 := ⟨_, rfl⟩
      have hsm : ∀ W, RdrAt W g r → Calls Try.prog 104 #[.pointer (some ⟨g, 0, none⟩), .int .i64 15] W fun e w' => e = .returned (.int .i64 (x : Int)) ∧ Lay.Left W g r' w' := by
        intro W h; rw [hx, hr']; exact Small_any g r 15 W h (by omega)
      have hnx : rdHops (k + 1) (rd3 s) = (hp ++ [(x : Int)], r') := by rw [rdHops, ← Hr.out, ← Hhp.out, ← hx, ← hr']
      have Hslot := Lib.hid (show Value.int .i64 ((nn : Int) - (k : Int) - 1) = .int .i64 ((nn : Int) - ((k + 1 : Nat) : Int)) by congr 1; omega)
      have Hmeas := Lib.hid (show (intOf (Value.int .i64 ((nn : Int) - (k : Int) - 1))).toNat < (intOf (Value.int .i64 ((nn : Int) - (k : Int)))).toNat by simp only [intOf]; omega)
      have Hsm := Lib.hid hsm
      have Hnx := Lib.hid hnx
      have hwr1 : IntKind.i64.wrap ((nn : Int) - (k : Int) - 1) = (nn : Int) - (k : Int) - 1 := by rw [IntKind.wrap_i64]; omega
      clear hx hr' hsm hnx
      --{
      go_wp2_with fail
      have HRd := Lib.hid HR.out.drew
      (refine Ord.wp_region_tree (Ord.OT.of [(false, 0), (false, 2)] (Ord.OT.two 1 (Ord.OT.of [(true, 3), (true, 4), (true, 5), (false, 6), (true, 7)] Ord.OT.nil) 3 (Ord.OT.of [] (Ord.OT.two 1 (Ord.OT.of [(true, 4), (true, 5), (false, 6), (true, 7)] Ord.OT.nil) 4 (Ord.OT.of [(true, 1), (true, 5), (false, 6), (true, 7)] Ord.OT.nil))))) (fun _ => True) (by kernel_rfl) (by kernel_rfl) (by kernel_rfl) (by kernel_rfl) (by trivial) ?_; simp only [Ord.OT.of, Ord.OT.opers, List.getElem?_toArray, List.getElem?_cons_succ, List.getElem?_cons_zero]; repeat (first | (refine Ord.wpT_skip ?_ ?_; (focus (go_simp; (try (intro h; cases h)); done)); simp only [Act.put, List.setIfInBounds_toArray, List.set_cons_zero, List.set_cons_succ]) | (refine Ord.wpT_take (v := ?_) ?_ ?_ ?_; rotate_left; (focus (go_simp; done)); (focus (intro w' hSw; (try dsimp only at hSw); go_simp; (try with_reducible rfl); done)); simp only [Act.put, List.setIfInBounds_toArray, List.set_cons_zero, List.set_cons_succ])))
      have hslk : (Value.slice A hp.length c) = .slice A k c := by rw [Hkl.out]
      have HRd' := HRd.out
      rw [hslk] at HRd'
      replace HRd := Lib.hid HRd'
      clear HRd' hslk
      refine Ord.wpT_two ?_ ?_
      · (refine Ord.wpT_call ?_ (fun K hK => ?_); (focus (go_simp; done)); go_simp)
        (refine hK _ _ (by trivial) ?_; clear hK K; (try simp only [Act.put, List.setIfInBounds_toArray, List.set_cons_zero, List.set_cons_succ]); repeat (first | (refine Ord.wpT_skip ?_ ?_; (focus (go_simp; (try (intro h; cases h)); done)); simp only [Act.put, List.setIfInBounds_toArray, List.set_cons_zero, List.set_cons_succ]) | (refine Ord.wpT_take (v := ?_) ?_ ?_ ?_; rotate_left; (focus (go_simp; done)); (focus (intro w' hSw; (try dsimp only at hSw); go_simp; (try with_reducible rfl); done)); simp only [Act.put, List.setIfInBounds_toArray, List.set_cons_zero, List.set_cons_succ])))
        (refine Ord.wpT_call ?_ (fun K hK => ?_); (focus (go_simp; done)); go_simp)
        go_at_call 104
        refine (Hsm.out _ HRd.out.rd).mono ?_
        rintro e w6 ⟨rfl, hr6, hg6⟩
        have R6 := HRd.out.left hr6 hg6
        have RA := R6.below (below_one _ (.cells #[.int .i64 (x : Int)] 3))
        clear hr6 hg6 c0 c1 c2
        obtain ⟨c0, c1, c2⟩ := R6.cells
        obtain ⟨g0, g1, g2⟩ := RA.cells
        (refine hK _ _ (by trivial) ?_; clear hK K; (try simp only [Act.put, List.setIfInBounds_toArray, List.set_cons_zero, List.set_cons_succ]); repeat (first | (refine Ord.wpT_skip ?_ ?_; (focus (go_simp; (try (intro h; cases h)); done)); simp only [Act.put, List.setIfInBounds_toArray, List.set_cons_zero, List.set_cons_succ]) | (refine Ord.wpT_take (v := ?_) ?_ ?_ ?_; rotate_left; (focus (go_simp; done)); (focus (intro w' hSw; (try dsimp only at hSw); go_simp; (try with_reducible rfl); done)); simp only [Act.put, List.setIfInBounds_toArray, List.set_cons_zero, List.set_cons_succ])))
        (refine Ord.wpT_call ?_ (fun K hK => ?_); (focus (go_simp; done)); go_simp)
        (refine hK _ _ (by trivial) ?_; clear hK K; (try simp only [Act.put, List.setIfInBounds_toArray, List.set_cons_zero, List.set_cons_succ]); repeat (first | (refine Ord.wpT_skip ?_ ?_; (focus (go_simp; (try (intro h; cases h)); done)); simp only [Act.put, List.setIfInBounds_toArray, List.set_cons_zero, List.set_cons_succ]) | (refine Ord.wpT_take (v := ?_) ?_ ?_ ?_; rotate_left; (focus (go_simp; done)); (focus (intro w' hSw; (try dsimp only at hSw); go_simp; (try with_reducible rfl); done)); simp only [Act.put, List.setIfInBounds_toArray, List.set_cons_zero, List.set_cons_succ])))
        refine Ord.wpT_app_row elI64 ?_ (.tmp 22) (.tmp 25) rfl (w.heap.size + 1) (.slice A k c) _ k 1 (is hp) [.int .i64 (x : Int)] rfl rfl (by intro u hu; simp at hu; subst hu; rfl) (by have h := RA.own; rw [Hkl.out] at h; exact h) (Rd.lit w6 1 1 [.int .i64 (x : Int)] 3 rfl (by simp [maxLen])) (Nat.le_trans (Nat.succ_le_of_lt (blk_lt R6.z)) (by rw [alloc_size]; omega)) (by omega) (fun v1 w7 ho7 hg7 hat7 => ⟨trivial, ?_⟩)
        · go_simp
        obtain ⟨A7, c7, rfl, -, -, -⟩ := (Rd.of_own ho7).slice_
        have hRn := RA.app (hops' := hp ++ [(x : Int)]) (by rw [List.length_append, Hkl.out, is_append]; exact ho7) hg7 hat7
        have hev7 := blk_grown RA.ev hg7 (fun e => RA.nG e.symm)
        obtain ⟨d0, -, -⟩ := env_cells hev7
        have e0 := blk_frozen hev7 0
        have HRn := Lib.hid hRn
        clear ho7 hg7 hat7 hRn hev7
        ((try simp only [Act.put, List.setIfInBounds_toArray, List.set_cons_zero, List.set_cons_succ]); repeat (first | (refine Ord.wpT_skip ?_ ?_; (focus (go_simp; (try (intro h; cases h)); done)); simp only [Act.put, List.setIfInBounds_toArray, List.set_cons_zero, List.set_cons_succ]) | (refine Ord.wpT_take (v := ?_) ?_ ?_ ?_; rotate_left; (focus (go_simp; done)); (focus (intro w' hSw; (try dsimp only at hSw); go_simp; (try with_reducible rfl); done)); simp only [Act.put, List.setIfInBounds_toArray, List.set_cons_zero, List.set_cons_succ])))
        (refine Ord.wpT_call ?_ (fun K hK => ?_); (focus (go_simp; done)); go_simp)
        (refine hK _ _ (by trivial) ?_; clear hK K; (try simp only [Act.put, List.setIfInBounds_toArray, List.set_cons_zero, List.set_cons_succ]); repeat (first | (refine Ord.wpT_skip ?_ ?_; (focus (go_simp; (try (intro h; cases h)); done)); simp only [Act.put, List.setIfInBounds_toArray, List.set_cons_zero, List.set_cons_succ]) | (refine Ord.wpT_take (v := ?_) ?_ ?_ ?_; rotate_left; (focus (go_simp; done)); (focus (intro w' hSw; (try dsimp only at hSw); go_simp; (try with_reducible rfl); done)); simp only [Act.put, List.setIfInBounds_toArray, List.set_cons_zero, List.set_cons_succ])))
        refine Ord.wpT_nil ?_
        go_wp2_with fail
        exact ⟨⟨k + 1, .slice A7 (k + 1) c7, by omega, Hslot.out, by rw [Hnx.out]; exact HRn.out⟩, Hmeas.out⟩
      · (refine Ord.wpT_call ?_ (fun K hK => ?_); (focus (go_simp; done)); go_simp)
        go_at_call 104
        refine (Hsm.out _ HRd.out.rd).mono ?_
        rintro e w6 ⟨rfl, hr6, hg6⟩
        have R6 := HRd.out.left hr6 hg6
        have RA := R6.below (below_one _ (.cells #[.int .i64 (x : Int)] 3))
        clear hr6 hg6 c0 c1 c2
        obtain ⟨c0, c1, c2⟩ := R6.cells
        obtain ⟨g0, g1, g2⟩ := RA.cells
        (refine hK _ _ (by trivial) ?_; clear hK K; (try simp only [Act.put, List.setIfInBounds_toArray, List.set_cons_zero, List.set_cons_succ]); repeat (first | (refine Ord.wpT_skip ?_ ?_; (focus (go_simp; (try (intro h; cases h)); done)); simp only [Act.put, List.setIfInBounds_toArray, List.set_cons_zero, List.set_cons_succ]) | (refine Ord.wpT_take (v := ?_) ?_ ?_ ?_; rotate_left; (focus (go_simp; done)); (focus (intro w' hSw; (try dsimp only at hSw); go_simp; (try with_reducible rfl); done)); simp only [Act.put, List.setIfInBounds_toArray, List.set_cons_zero, List.set_cons_succ])))
        refine Ord.wpT_two ?_ ?_
        · (refine Ord.wpT_call ?_ (fun K hK => ?_); (focus (go_simp; done)); go_simp)
          (refine hK _ _ (by trivial) ?_; clear hK K; (try simp only [Act.put, List.setIfInBounds_toArray, List.set_cons_zero, List.set_cons_succ]); repeat (first | (refine Ord.wpT_skip ?_ ?_; (focus (go_simp; (try (intro h; cases h)); done)); simp only [Act.put, List.setIfInBounds_toArray, List.set_cons_zero, List.set_cons_succ]) | (refine Ord.wpT_take (v := ?_) ?_ ?_ ?_; rotate_left; (focus (go_simp; done)); (focus (intro w' hSw; (try dsimp only at hSw); go_simp; (try with_reducible rfl); done)); simp only [Act.put, List.setIfInBounds_toArray, List.set_cons_zero, List.set_cons_succ])))
          (refine Ord.wpT_call ?_ (fun K hK => ?_); (focus (go_simp; done)); go_simp)
          (refine hK _ _ (by trivial) ?_; clear hK K; (try simp only [Act.put, List.setIfInBounds_toArray, List.set_cons_zero, List.set_cons_succ]); repeat (first | (refine Ord.wpT_skip ?_ ?_; (focus (go_simp; (try (intro h; cases h)); done)); simp only [Act.put, List.setIfInBounds_toArray, List.set_cons_zero, List.set_cons_succ]) | (refine Ord.wpT_take (v := ?_) ?_ ?_ ?_; rotate_left; (focus (go_simp; done)); (focus (intro w' hSw; (try dsimp only at hSw); go_simp; (try with_reducible rfl); done)); simp only [Act.put, List.setIfInBounds_toArray, List.set_cons_zero, List.set_cons_succ])))
          refine Ord.wpT_app_row elI64 ?_ (.tmp 22) (.tmp 25) rfl (w.heap.size + 1) (.slice A k c) _ k 1 (is hp) [.int .i64 (x : Int)] rfl rfl (by intro u hu; simp at hu; subst hu; rfl) (by have h := RA.own; rw [Hkl.out] at h; exact h) (Rd.lit w6 1 1 [.int .i64 (x : Int)] 3 rfl (by simp [maxLen])) (Nat.le_trans (Nat.succ_le_of_lt (blk_lt R6.z)) (by rw [alloc_size]; omega)) (by omega) (fun v1 w7 ho7 hg7 hat7 => ⟨trivial, ?_⟩)
          · go_simp
          obtain ⟨A7, c7, rfl, -, -, -⟩ := (Rd.of_own ho7).slice_
          have hRn := RA.app (hops' := hp ++ [(x : Int)]) (by rw [List.length_append, Hkl.out, is_append]; exact ho7) hg7 hat7
          have hev7 := blk_grown RA.ev hg7 (fun e => RA.nG e.symm)
          obtain ⟨d0, -, -⟩ := env_cells hev7
          have e0 := blk_frozen hev7 0
          have HRn := Lib.hid hRn
          clear ho7 hg7 hat7 hRn hev7
          ((try simp only [Act.put, List.setIfInBounds_toArray, List.set_cons_zero, List.set_cons_succ]); repeat (first | (refine Ord.wpT_skip ?_ ?_; (focus (go_simp; (try (intro h; cases h)); done)); simp only [Act.put, List.setIfInBounds_toArray, List.set_cons_zero, List.set_cons_succ]) | (refine Ord.wpT_take (v := ?_) ?_ ?_ ?_; rotate_left; (focus (go_simp; done)); (focus (intro w' hSw; (try dsimp only at hSw); go_simp; (try with_reducible rfl); done)); simp only [Act.put, List.setIfInBounds_toArray, List.set_cons_zero, List.set_cons_succ])))
          (refine Ord.wpT_call ?_ (fun K hK => ?_); (focus (go_simp; done)); go_simp)
          (refine hK _ _ (by trivial) ?_; clear hK K; (try simp only [Act.put, List.setIfInBounds_toArray, List.set_cons_zero, List.set_cons_succ]); repeat (first | (refine Ord.wpT_skip ?_ ?_; (focus (go_simp; (try (intro h; cases h)); done)); simp only [Act.put, List.setIfInBounds_toArray, List.set_cons_zero, List.set_cons_succ]) | (refine Ord.wpT_take (v := ?_) ?_ ?_ ?_; rotate_left; (focus (go_simp; done)); (focus (intro w' hSw; (try dsimp only at hSw); go_simp; (try with_reducible rfl); done)); simp only [Act.put, List.setIfInBounds_toArray, List.set_cons_zero, List.set_cons_succ])))
          refine Ord.wpT_nil ?_
          go_wp2_with fail
          exact ⟨⟨k + 1, .slice A7 (k + 1) c7, by omega, Hslot.out, by rw [Hnx.out]; exact HRn.out⟩, Hmeas.out⟩
        · (refine Ord.wpT_call ?_ (fun K hK => ?_); (focus (go_simp; done)); go_simp)
          (refine hK _ _ (by trivial) ?_; clear hK K; (try simp only [Act.put, List.setIfInBounds_toArray, List.set_cons_zero, List.set_cons_succ]); repeat (first | (refine Ord.wpT_skip ?_ ?_; (focus (go_simp; (try (intro h; cases h)); done)); simp only [Act.put, List.setIfInBounds_toArray, List.set_cons_zero, List.set_cons_succ]) | (refine Ord.wpT_take (v := ?_) ?_ ?_ ?_; rotate_left; (focus (go_simp; done)); (focus (intro w' hSw; (try dsimp only at hSw); go_simp; (try with_reducible rfl); done)); simp only [Act.put, List.setIfInBounds_toArray, List.set_cons_zero, List.set_cons_succ])))
          (refine Ord.wpT_call ?_ (fun K hK => ?_); (focus (go_simp; done)); go_simp)
          (refine hK _ _ (by trivial) ?_; clear hK K; (try simp only [Act.put, List.setIfInBounds_toArray, List.set_cons_zero, List.set_cons_succ]); repeat (first | (refine Ord.wpT_skip ?_ ?_; (focus (go_simp; (try (intro h; cases h)); done)); simp only [Act.put, List.setIfInBounds_toArray, List.set_cons_zero, List.set_cons_succ]) | (refine Ord.wpT_take (v := ?_) ?_ ?_ ?_; rotate_left; (focus (go_simp; done)); (focus (intro w' hSw; (try dsimp only at hSw); go_simp; (try with_reducible rfl); done)); simp only [Act.put, List.setIfInBounds_toArray, List.set_cons_zero, List.set_cons_succ])))
          refine Ord.wpT_app_row elI64 ?_ (.tmp 22) (.tmp 25) rfl (w.heap.size + 1) (.slice A k c) _ k 1 (is hp) [.int .i64 (x : Int)] rfl rfl (by intro u hu; simp at hu; subst hu; rfl) (by have h := RA.own; rw [Hkl.out] at h; exact h) (Rd.lit w6 1 1 [.int .i64 (x : Int)] 3 rfl (by simp [maxLen])) (Nat.le_trans (Nat.succ_le_of_lt (blk_lt R6.z)) (by rw [alloc_size]; omega)) (by omega) (fun v1 w7 ho7 hg7 hat7 => ⟨trivial, ?_⟩)
          · go_simp
          obtain ⟨A7, c7, rfl, -, -, -⟩ := (Rd.of_own ho7).slice_
          have hRn := RA.app (hops' := hp ++ [(x : Int)]) (by rw [List.length_append, Hkl.out, is_append]; exact ho7) hg7 hat7
          have hev7 := blk_grown RA.ev hg7 (fun e => RA.nG e.symm)
          obtain ⟨d0, -, -⟩ := env_cells hev7
          have e0 := blk_frozen hev7 0
          have HRn := Lib.hid hRn
          clear ho7 hg7 hat7 hRn hev7
          ((try simp only [Act.put, List.setIfInBounds_toArray, List.set_cons_zero, List.set_cons_succ]); repeat (first | (refine Ord.wpT_skip ?_ ?_; (focus (go_simp; (try (intro h; cases h)); done)); simp only [Act.put, List.setIfInBounds_toArray, List.set_cons_zero, List.set_cons_succ]) | (refine Ord.wpT_take (v := ?_) ?_ ?_ ?_; rotate_left; (focus (go_simp; done)); (focus (intro w' hSw; (try dsimp only at hSw); go_simp; (try with_reducible rfl); done)); simp only [Act.put, List.setIfInBounds_toArray, List.set_cons_zero, List.set_cons_succ])))
          (refine Ord.wpT_call ?_ (fun K hK => ?_); (focus (go_simp; done)); go_simp)
          (refine hK _ _ (by trivial) ?_; clear hK K; (try simp only [Act.put, List.setIfInBounds_toArray, List.set_cons_zero, List.set_cons_succ]); repeat (first | (refine Ord.wpT_skip ?_ ?_; (focus (go_simp; (try (intro h; cases h)); done)); simp only [Act.put, List.setIfInBounds_toArray, List.set_cons_zero, List.set_cons_succ]) | (refine Ord.wpT_take (v := ?_) ?_ ?_ ?_; rotate_left; (focus (go_simp; done)); (focus (intro w' hSw; (try dsimp only at hSw); go_simp; (try with_reducible rfl); done)); simp only [Act.put, List.setIfInBounds_toArray, List.set_cons_zero, List.set_cons_succ])))
          refine Ord.wpT_nil ?_
          go_wp2_with fail
          exact ⟨⟨k + 1, .slice A7 (k + 1) c7, by omega, Hslot.out, by rw [Hnx.out]; exact HRn.out⟩, Hmeas.out⟩
      --}
    · obtain rfl : k = nn := by omega
      have hcd : decide ((0 : Int) < (k : Int) - (k : Int)) = false := decide_eq_false (by omega)
      obtain ⟨inn, hin⟩ : ∃ x, x = ((rd4 s).text 65536).1 := ⟨_, rfl⟩
      have hr4 : r = rd4 s := by rw [Hr.out, Hr4.out]
      have htx : ∀ W, RdrAt W g r → Calls Try.prog 105 #[.pointer (some ⟨g, 0, none⟩), .int .i64 65536] W fun e w' => e = .returned (.string (str inn)) ∧ Lay.Left W g (rd5 s) w' := by
        intro W h; rw [hr4] at h; rw [hin, ← H5.out]; exact Text_any g (rd4 s) 65536 W h (by omega)
      have hrw : E.raw s = ⟨hp, (lm : Int), inn⟩ := by rw [Hraw.out, ← Hhp.out, hin]
      obtain ⟨r5, hr5⟩ : ∃ r, r = rd5 s := ⟨_, rfl⟩
      rw [← hr5] at htx
      have hen := fun W (h : RdrAt W g r5) => End_any g r5 W h
      obtain ⟨fi, hfi⟩ : ∃ f, f = r5.fin := ⟨_, rfl⟩
      rw [← hfi] at hen
      have hgo := Hgo.out
      rw [← Hkd.out, ← hr5, ← hfi] at hgo
      have Hrw := Lib.hid hrw
      have Htx := Lib.hid htx
      have Hen := Lib.hid hen
      have Hgo2 := Lib.hid hgo
      have HRd' := HR.out
      have hslk : (Value.slice A hp.length c) = .slice A k c := by rw [Hkl.out]
      rw [hslk] at HRd'
      have HRk := Lib.hid HRd'
      clear hin hr4 htx hrw hr5 hfi hen hgo HRd' hslk HR Hgo H5 Hr4 Hraw Hkd
      by_cases g1 : kd = 3
      rotate_left
      · have g1' : ((kd : Int) != 3) = true := by simp; omega
        have Hbad := Lib.hid (show E.good s = false by rw [Hgo2.out, decide_eq_false g1]; rfl)
        clear g1
        go_wp2_with (go_at_call 105; refine (Htx.out _ HRk.out.rd).mono ?_; rintro e w6 ⟨rfl, hr6, hg6⟩; have R6 := HRk.out.left hr6 hg6; clear c0 c1 c2 f0 hr6 hg6; obtain ⟨c0, c1, c2⟩ := R6.cells; have f2 := blk_frozen R6.ev 2; have R7 := R6.set2 (str inn); obtain ⟨z0, z1, z2⟩ := env_cells R7.z; have y0 := blk_frozen R7.z 0; have y1 := blk_frozen R7.z 1; have y2 := blk_frozen R7.z 2; have HR6 := Lib.hid R7; clear R6 R7)
        refine bodyPost_ret (v := .tuple #[.agg [Value.slice none 0 0, .int .i64 0, .string ⟨#[]⟩].toArray, .int .i64 11]) (Use.results_cell_tmp rfl _ _ w.heap.size [.slice none 0 0, .int .i64 0, .string ⟨#[]⟩] _ _ rfl rfl (range_all (set3 HR6.out.z)) Try.underlying56 rfl (by kernel_rfl)) rfl ?_
        rw [show errR s = 11 by rw [errR, Hbad.out]; rfl]
        exact ret_zero s Hbad.out 11 (below_set (below_set (below_set HR6.out.b (Nat.le_refl _) _ _) (Nat.le_refl _) _ _) (Nat.le_refl _) _ _)
      have g1' : ((kd : Int) != 3) = false := by simp; omega
      by_cases g2 : fi = 0
      rotate_left
      · have g2' : ((fi : Int) != 0) = true := by simp; omega
        have Hbad := Lib.hid (show E.good s = false by rw [Hgo2.out, decide_eq_false g2]; simp)
        clear g1 g2
        go_wp2_with (first
          | (go_at_call 105; refine (Htx.out _ HRk.out.rd).mono ?_; rintro e w6 ⟨rfl, hr6, hg6⟩; have R6 := HRk.out.left hr6 hg6; clear c0 c1 c2 f0 hr6 hg6; obtain ⟨c0, c1, c2⟩ := R6.cells; have f2 := blk_frozen R6.ev 2; have R7 := R6.set2 (str inn); obtain ⟨z0, z1, z2⟩ := env_cells R7.z; have y0 := blk_frozen R7.z 0; have y1 := blk_frozen R7.z 1; have y2 := blk_frozen R7.z 2; have HR6 := Lib.hid R7; clear R6 R7)
          | (go_at_call 106; refine (Hen.out _ HR6.out.rd).mono ?_; rintro e w7 ⟨rfl, rfl⟩))
        refine bodyPost_ret (v := .tuple #[.agg [Value.slice none 0 0, .int .i64 0, .string ⟨#[]⟩].toArray, .int .i64 11]) (Use.results_cell_tmp rfl _ _ w.heap.size [.slice none 0 0, .int .i64 0, .string ⟨#[]⟩] _ _ rfl rfl (range_all (set3 HR6.out.z)) Try.underlying56 rfl (by kernel_rfl)) rfl ?_
        rw [show errR s = 11 by rw [errR, Hbad.out]; rfl]
        exact ret_zero s Hbad.out 11 (below_set (below_set (below_set HR6.out.b (Nat.le_refl _) _ _) (Nat.le_refl _) _ _) (Nat.le_refl _) _ _)
      have g2' : ((fi : Int) != 0) = false := by simp; omega
      have hri : ∀ W gg, RS 56 w W g gg G (.slice A k c) hp (lm : Int) (str inn) → Calls Try.prog 37 #[.agg #[.slice A k c, .int .i64 (lm : Int), .string (str inn)]] W fun e w' => e = .returned (.bool (E.raw s).right) ∧ Below W.heap.size W w' := by
        intro W gg hR
        have h1 := Rd.of_own hR.own
        have h2 := Hre.out W (.slice A k c) (by rw [Hrw.out]; exact h1)
        have h3 := right_any (E.raw s) (.slice A k c) W h2
        rw [show (E.raw s).limit = (lm : Int) by rw [Hrw.out], show (E.raw s).inner = inn by rw [Hrw.out]] at h3
        exact h3
      generalize hrt : (E.raw s).right = rt at hri Hgo2
      have Hri := Lib.hid hri
      have Hrt := Lib.hid hrt
      clear hri hrt
      cases rt with
      | false =>
        have Hbad := Lib.hid (show E.good s = false by rw [Hgo2.out]; simp)
        clear g1 g2
        go_wp2_with (first
          | (go_at_call 105; refine (Htx.out _ HRk.out.rd).mono ?_; rintro e w6 ⟨rfl, hr6, hg6⟩; have R6 := HRk.out.left hr6 hg6; clear c0 c1 c2 f0 hr6 hg6; obtain ⟨c0, c1, c2⟩ := R6.cells; have f2 := blk_frozen R6.ev 2; have R7 := R6.set2 (str inn); obtain ⟨z0, z1, z2⟩ := env_cells R7.z; have y0 := blk_frozen R7.z 0; have y1 := blk_frozen R7.z 1; have y2 := blk_frozen R7.z 2; have HR6 := Lib.hid R7; clear R6 R7)
          | (go_at_call 106; refine (Hen.out _ HR6.out.rd).mono ?_; rintro e w7 ⟨rfl, rfl⟩)
          | (go_at_call 37; refine (Hri.out _ _ HR6.out).mono ?_; rintro e w8 ⟨rfl, hb8⟩; have R8 := HR6.out.below hb8; clear hb8 z0 z1 z2 y0 y1 y2 c0 c1 c2; obtain ⟨z0, z1, z2⟩ := env_cells R8.z; obtain ⟨c0, c1, c2⟩ := R8.cells; have y0 := blk_frozen R8.z 0; have y1 := blk_frozen R8.z 1; have y2 := blk_frozen R8.z 2; have HR8 := Lib.hid R8; clear R8))
        refine bodyPost_ret (v := .tuple #[.agg [Value.slice none 0 0, .int .i64 0, .string ⟨#[]⟩].toArray, .int .i64 11]) (Use.results_cell_tmp rfl _ _ w.heap.size [.slice none 0 0, .int .i64 0, .string ⟨#[]⟩] _ _ rfl rfl (range_all (set3 HR8.out.z)) Try.underlying56 rfl (by kernel_rfl)) rfl ?_
        rw [show errR s = 11 by rw [errR, Hbad.out]; rfl]
        exact ret_zero s Hbad.out 11 (below_set (below_set (below_set HR8.out.b (Nat.le_refl _) _ _) (Nat.le_refl _) _ _) (Nat.le_refl _) _ _)
      | true =>
        have Hok := Lib.hid (show E.good s = true by rw [Hgo2.out, decide_eq_true g1, decide_eq_true g2]; rfl)
        clear g1 g2
        go_wp2_with (first
          | (go_at_call 105; refine (Htx.out _ HRk.out.rd).mono ?_; rintro e w6 ⟨rfl, hr6, hg6⟩; have R6 := HRk.out.left hr6 hg6; clear c0 c1 c2 f0 hr6 hg6; obtain ⟨c0, c1, c2⟩ := R6.cells; have f2 := blk_frozen R6.ev 2; have R7 := R6.set2 (str inn); obtain ⟨z0, z1, z2⟩ := env_cells R7.z; have y0 := blk_frozen R7.z 0; have y1 := blk_frozen R7.z 1; have y2 := blk_frozen R7.z 2; have HR6 := Lib.hid R7; clear R6 R7)
          | (go_at_call 106; refine (Hen.out _ HR6.out.rd).mono ?_; rintro e w7 ⟨rfl, rfl⟩)
          | (go_at_call 37; refine (Hri.out _ _ HR6.out).mono ?_; rintro e w8 ⟨rfl, hb8⟩; have R8 := HR6.out.below hb8; clear hb8 z0 z1 z2 y0 y1 y2 c0 c1 c2; obtain ⟨z0, z1, z2⟩ := env_cells R8.z; obtain ⟨c0, c1, c2⟩ := R8.cells; have y0 := blk_frozen R8.z 0; have y1 := blk_frozen R8.z 1; have y2 := blk_frozen R8.z 2; have HR8 := Lib.hid R8; clear R8))
        refine bodyPost_ret (v := .tuple #[.agg [Value.slice A k c, .int .i64 (lm : Int), .string (str inn)].toArray, .int .i64 0]) (Use.results_cell_tmp rfl _ _ w.heap.size [.slice A k c, .int .i64 (lm : Int), .string (str inn)] _ _ rfl rfl (range_all (set3 HR8.out.z)) Try.underlying56 rfl (by kernel_rfl)) rfl ?_
        rw [show errR s = 0 by rw [errR, Hok.out]; rfl, show E.read s = E.raw s by rw [E.read, Hok.out]; rfl, Hrw.out]
        have hlt : w.heap.size < w.heap.size + 1 := by omega
        exact ⟨_, rfl, Rd.of_own (own_set (own_set (own_set HR8.out.own hlt _ _) hlt _ _) hlt _ _), below_set (below_set (below_set HR8.out.b (Nat.le_refl _) _ _) (Nat.le_refl _) _ _) (Nat.le_refl _) _ _⟩
end Go.Proofs.Ytcjabfdjngekfaa.Rel
