/- The reference of ids, walked: Read. -/
import Derived.Test.YtpldkplfdbjidaaRef03W5
import Derived.Test.YtpldkplfdbjidaaIdsR
import Derived.Test.YtpldkplfdbjidaaStoreAll
set_option linter.unusedVariables false
set_option linter.unusedSimpArgs false
namespace Go.Proofs.Ytpldkplfdbjidaa.Ids
open Go.RowKit Go.Proofs.Ytpldkplfdbjidaa.Wd Go.Proofs.Ytpldkplfdbjidaa.Use Go.Proofs.Ytpldkplfdbjidaa.Lay

/-- what a reading of the reference holds: its reader's block, the ids so far -/
structure RV (w W : World) (g : Nat) (O : Obj) (ov : Value) (out : List Id) : Prop where
  rd : W.heap[g]? = some O
  own : W.ownsRow (g + 1) 22 32 ov out.length (ix out)
  lg : w.heap.size ≤ g
  b : Below w.heap.size w W
variable {w W W1 : World} {g : Nat} {O O' : Obj} {ov : Value} {out : List Id}
theorem RV.below (h : RV w W g O ov out) (hb : Below W.heap.size W W1) : RV w W1 g O ov out := ⟨blk_below h.rd hb, own_below h.own hb, h.lg, below_go hb h.b⟩
theorem RV.set (h : RV w W g O ov out) (h1 : W1.heap[g]? = some O') (hg : W.grownBy W1 (some g)) : RV w W1 g O' ov out :=
  ⟨h1, own_grown h.own hg (fun k hk e => by injection hk with hk; have := own_base h.own k (by rw [e]); omega), h.lg, h.b.grown hg h.b.size (fun k hk => by injection hk with hk; have := h.lg; omega)⟩
theorem RV.other (h : RV w W g O ov out) {G : Nat} (hg : W.grownBy W1 (some G)) (h1 : G ≠ g) (h2 : ov.ownBlock ≠ some G) (h3 : w.heap.size ≤ G) : RV w W1 g O ov out :=
  ⟨blk_grown h.rd hg (by intro e; injection e with e; exact h1 e.symm), own_grown h.own hg (fun k hk e => by injection hk with hk; subst hk; exact h2 e), h.lg, h.b.grown hg h.b.size (fun k hk => by injection hk with hk; omega)⟩
theorem RV.app (h : RV w W g O ov out) {v1 : Value} {out' : List Id} (ho : W1.ownsRow (g + 1) 22 32 v1 out'.length (ix out')) (hg : W.grownBy W1 ov.ownBlock) : RV w W1 g O v1 out' :=
  ⟨blk_grown h.rd hg (fun e => by have := own_base h.own g e.symm; omega), ho, h.lg, h.b.grown hg h.b.size (fun k hk => by have := own_base h.own k hk; have := h.lg; omega)⟩
theorem RV.lt (h : RV w W g O ov out) : ∀ k, ov.ownBlock = some k → k < W.heap.size := fun k hk => (h.own.lt k hk).2
theorem own_down {w : World} {base base' : Nat} {e : TypeId} {size n : Nat} {v : Value} {xs : List Value} (h : w.ownsRow base e size v n xs) (hb : base' ≤ base) : w.ownsRow base' e size v n xs :=
  ⟨h.1, h.2.elim .inl (fun ⟨g, cap, cur, e, h1, r⟩ => .inr ⟨g, cap, cur, e, Nat.le_trans hb h1, r⟩)⟩
theorem rl_w : ∀ (n : Nat) (r : Rdr) (out : List Id), W32 out → W32 (rl n r out).2
  | 0, r, out, h => h
  | n + 1, r, out, h => by
    by_cases h0 : r.bad = 0
    · rw [rl_ok n r out h0]; exact rl_w n _ _ (h.app (W32.one (pad_raw r)))
    · rw [rl_bad _ r out h0]; exact h
theorem read_w (b : List UInt8) (most : Int) : W32 (read b most).1 := by
  unfold read
  simp only
  split
  · exact W32.nil
  · split
    · exact W32.nil
    · exact rl_w _ _ _ W32.nil
theorem rl_len : ∀ (n : Nat) (r : Rdr) (out : List Id), (rl n r out).2.length ≤ out.length + n
  | 0, r, out => by simp [rl]
  | n + 1, r, out => by
    by_cases h0 : r.bad = 0
    · rw [rl_ok n r out h0]; have := rl_len n (r.raw 32).2 (out ++ [pad (r.raw 32).1]); rw [List.length_append, List.length_singleton] at this; omega
    · rw [rl_bad _ r out h0]; show out.length ≤ _; omega
theorem read_len8 (b : List UInt8) (h : ((⟨b, 0⟩ : Rdr).small 8).1 ≤ 8) : (read b 8).1.length ≤ 8 := by
  unfold read
  simp only
  split
  · simp
  · split
    · simp
    · have := rl_len ((⟨b, 0⟩ : Rdr).small 8).1 ((⟨b, 0⟩ : Rdr).small 8).2 []
      simp only [List.length_nil, Nat.zero_add] at this
      simp only
      omega
/-- so much of a sum is laid -/
def part (s : List UInt8) (j : Nat) : List UInt8 := s.take j ++ List.replicate (32 - j) 0
theorem part_zero (s : List UInt8) : part s 0 = zid := by simp [part, zid]
theorem part_all {s : List UInt8} (h : s.length = 32) : part s 32 = s := by simp [part, List.take_of_length_le (Nat.le_of_eq h)]
theorem part_set {s : List UInt8} (h : s.length = 32) (j : Nat) (hj : j < 32) : (bs (part s j)).set j (.int .u8 ((s.getD j 0).toNat : Int)) = bs (part s (j + 1)) := by
  have hl : (s.take j).length = j := by rw [List.length_take]; omega
  have e : List.replicate (32 - j) (0 : UInt8) = 0 :: List.replicate (32 - (j + 1)) 0 := by rw [show 32 - j = (32 - (j + 1)) + 1 by omega]; rfl
  rw [part, part, e, List.take_succ_eq_append_getElem (by omega)]
  simp only [bs, List.map_append, List.map_cons, List.map_nil]
  rw [List.set_append_right _ _ (by rw [List.length_map]; omega), List.length_map, hl, Nat.sub_self, List.set_cons_zero, List.append_assoc, List.getD_eq_getElem?_getD, List.getElem?_eq_getElem (by omega)]
  rfl
theorem str_idx (s : List UInt8) (j : Nat) (h : j < s.length) : (str s).data[j]?.getD 0 = s.getD j 0 := by
  rw [List.getD_eq_getElem?_getD]; simp [str]
set_option maxRecDepth 100000 in
set_option maxHeartbeats 16000000 in
theorem rRead_any (b : List UInt8) (most : Int) (hb : b.length ≤ 1000000) (hm : most < 9223372036854775808) (w : World) :
    Calls Try.prog 27 #[.string (str b), .int .i64 most] w fun e w' => ∃ v, e = .returned (.tuple #[v, .int .i64 ((read b most).2 : Int)]) ∧ w'.ownsRow w.heap.size 22 32 v (read b most).1.length (ix (read b most).1) ∧ Below w.heap.size w w' := by
  obtain ⟨N, hN⟩ : ∃ N, N = ((⟨b, 0⟩ : Rdr).small most).1 := ⟨_, rfl⟩
  obtain ⟨r2, hr2⟩ : ∃ r2, r2 = ((⟨b, 0⟩ : Rdr).small most).2 := ⟨_, rfl⟩
  have hNlt : N < 9223372036854775808 := by rw [hN]; exact Rdr.small_le _ _ hm
  have hF0 : Fits b r2 [] := ⟨by simp, fun h => by have := rsmall_len ⟨b, 0⟩ most (by rw [← hr2]; exact h); rw [← hr2] at this; simpa using this⟩
  have hsm := fun W => Ref01.Small_any ⟨b, 0⟩ most hm W
  rw [← hN, ← hr2] at hsm
  have hrd : ∀ t, rl N r2 [] = t → read b most = (if t.1.bad ≠ 0 then ([], t.1.bad) else if t.1.fin ≠ 0 ∨ up t.2 = false then ([], 11) else (t.2, 0)) := by
    intro t ht; rw [← ht, read]; simp only [← hr2, ← hN]
  have Hsm := Lib.hid hsm
  have HF0 := Lib.hid hF0
  have Hb := Lib.hid hb
  have Hrd := Lib.hid hrd
  clear hsm hN hr2 hF0 hb hrd
  go_enter Try.func27, Try.ntmps27
  by_cases h2 : r2.bad = 0
  rotate_left
  · have hne : ((r2.bad : Int) != 0) = true := by rw [bne_iff_ne]; omega
    have Hr := Lib.hid (show read b most = ([], r2.bad) by rw [Hrd.out _ (rl_bad _ _ _ h2), if_pos h2])
    clear h2
    go_upto_region 3 with (go_at_call 80; refine (Hsm.out _).mono ?_; rintro e w1 ⟨rfl, hb1⟩)
    have hk := heap_alloc_new w1 (.cells #[.string (str r2.b), .int .i64 (r2.bad : Int)] 117)
    have hc : (w1.alloc (.cells #[.string (str r2.b), .int .i64 (r2.bad : Int)] 117)).cell? ⟨w1.heap.size, 1, none⟩ = some (.int .i64 (r2.bad : Int)) := by rw [blk_cell hk 1]; rfl
    (refine Ord.wp_region_ord [(false, 0), (false, 1), (false, 2), (false, 3)] (fun W => W.cell? ⟨w1.heap.size, 1, none⟩ = some (.int .i64 (r2.bad : Int))) (by kernel_rfl) (by kernel_rfl) (by kernel_rfl) (by kernel_rfl) (by exact hc) ?_; simp only [Ord.ordOps, List.filterMap_cons, List.filterMap_nil, List.getElem?_toArray, List.getElem?_cons_succ, List.getElem?_cons_zero, Option.map_some]; repeat (first | (refine Ord.wpOrd_skip ?_ ?_; (focus (go_simp; (try (intro h; cases h)); done)); simp only [Act.put, List.setIfInBounds_toArray, List.set_cons_zero, List.set_cons_succ]) | (refine Ord.wpOrd_take (v := ?_) ?_ ?_ ?_; rotate_left; (focus (go_simp; done)); (focus (intro w' hSw; (try dsimp only at hSw); go_simp; (try with_reducible rfl); done)); simp only [Act.put, List.setIfInBounds_toArray, List.set_cons_zero, List.set_cons_succ])))
    refine Ord.wpOrd_nil ?_
    go_wp2_with fail
    go_ret2
    exact ⟨_, by rw [Hr.out]; rfl, by rw [Hr.out]; exact own_nil _ _ _ _, below_go (below_one _ _).drew hb1⟩
  obtain ⟨b2, bd2⟩ := r2
  simp only at h2
  subst h2
  go_wp2_with (go_at_call 80; refine (Hsm.out _).mono ?_; rintro e w1 ⟨rfl, hb1⟩)
  have R2 : RV w (w1.alloc (.cells #[.string (str b2), .int .i64 0] 117)) w1.heap.size (.cells #[.string (str b2), .int .i64 0] 117 (0, 0)) (.slice none 0 0) [] := ⟨heap_alloc_new _ _, own_nil _ _ _ _, hb1.size, hb1.alloc hb1.size _⟩
  generalize w1.alloc (.cells #[.string (str b2), .int .i64 0] 117) = w2 at R2 ⊢
  generalize w1.heap.size = g at R2 ⊢
  have R2' := Lib.hid R2
  clear R2 hb1
  go_loopw [8, 9] (fun o_ i_ wr => ∃ (k : Nat) (bb : List UInt8) (out : List Id) (Ao : Option Addr) (co : Nat), i_ = .int .i64 (k : Int) ∧ k ≤ N ∧ o_ = .slice Ao k co ∧ k ≤ 40000 ∧ Hid (out.length = k) ∧ Hid (rl (N - k) ⟨bb, 0⟩ out = rl N ⟨b2, 0⟩ []) ∧ Hid (RV w wr g (.cells #[.string (str bb), .int .i64 0] 117 (0, 0)) (.slice Ao k co) out) ∧ Hid (W32 out) ∧ Hid (Fits b ⟨bb, 0⟩ out)) (fun _ i_ _ => N - (intOf i_).toNat)
  case atStart => exact ⟨0, b2, [], none, 0, rfl, Nat.zero_le _, rfl, by omega, Lib.hid rfl, Lib.hid rfl, R2', Lib.hid W32.nil, HF0⟩
  case round =>
    clear R2'
    obtain ⟨k, bb, out, Ao, co, rfl, hk, rfl, hk4, Hol, Hrl, HR, H32, HF⟩ := hrel
    have c0 : wr.cell? ⟨g, 0, none⟩ = some (.string (str bb)) := by rw [blk_cell HR.out.rd 0]; rfl
    have c1 : wr.cell? ⟨g, 1, none⟩ = some (.int .i64 0) := by rw [blk_cell HR.out.rd 1]; rfl
    by_cases hkN : k < N
    rotate_left
    · obtain rfl : k = N := by omega
      have hd1 : decide ((k : Int) < (k : Int)) = false := decide_eq_false (by omega)
      have Ht := Lib.hid (Hrd.out (⟨bb, 0⟩, out) (by rw [← Hrl.out, Nat.sub_self]; rfl))
      have hend := fun W => Ref01.End_any ⟨bb, 0⟩ W
      have hfin := fin_ok (r := ⟨bb, 0⟩) rfl
      obtain ⟨fn, hfn⟩ : ∃ x, x = (⟨bb, 0⟩ : Rdr).fin := ⟨_, rfl⟩
      rw [← hfn] at hend hfin
      have hof := fun W (h : Below wr.heap.size wr W) => rOf_any out H32.out (by have := Hol.out; omega) (.slice Ao k co) W (by rw [Hol.out]; have h2 := (Rd.of_own HR.out.own).below h; rw [Hol.out] at h2; exact h2)
      have hsame := fun W v2 (h : Below wr.heap.size wr W) (h2 : Rd W 32 v2 (rof out).length (ix (rof out))) => rSame_any out (rof out) H32.out (rof_w _ _ W32.nil H32.out) (.slice Ao k co) v2 W (by rw [Hol.out]; have h3 := (Rd.of_own HR.out.own).below h; rw [Hol.out] at h3; exact h3) h2
      simp only [same_rof] at hsame
      have Hend := Lib.hid hend
      have Hof := Lib.hid hof
      have Hsame := Lib.hid hsame
      rcases hfin with rfl | rfl
      rotate_left
      · have Hr := Lib.hid (show read b most = ([], 11) by rw [Ht.out, if_neg (by simp), if_pos (Or.inl (by rw [← hfn]; decide))])
        clear hend hof hsame hfn
        go_wp2_with (go_at_call 82; refine (Hend.out _).mono ?_; rintro e w3 ⟨rfl, hb3⟩)
        go_ret2
        exact ⟨_, by rw [Hr.out]; rfl, by rw [Hr.out]; exact own_nil _ _ _ _, below_go hb3 HR.out.b⟩
      clear hend hof hsame
      cases hup : up out
      · have Hr := Lib.hid (show read b most = ([], 11) by rw [Ht.out, if_neg (by simp), if_pos (Or.inr hup)])
        rw [hup] at Hsame
        clear hfn hup
        go_wp2_with (first
          | (go_at_call 82; refine (Hend.out _).mono ?_; rintro e w3 ⟨rfl, hb3⟩)
          | (go_at_call 83; refine (Hof.out _ hb3).mono ?_; rintro e w4 ⟨v4, rfl, hr4, hb4⟩; have hb4' := below_go hb4 hb3; have Hr4 := Lib.hid hr4; clear hr4)
          | (go_at_call 31; refine (Hsame.out _ _ hb4' Hr4.out).mono ?_; rintro e w5 ⟨rfl, hb5⟩))
        go_ret2
        exact ⟨_, by rw [Hr.out]; rfl, by rw [Hr.out]; exact own_nil _ _ _ _, below_go hb5 (below_go hb4' HR.out.b)⟩
      · have Hr := Lib.hid (show read b most = (out, 0) by rw [Ht.out, if_neg (by simp), if_neg (by rintro (h | h); rw [← hfn] at h; exact h rfl; simp only at h; rw [hup] at h; cases h)])
        rw [hup] at Hsame
        clear hfn hup
        go_wp2_with (first
          | (go_at_call 82; refine (Hend.out _).mono ?_; rintro e w3 ⟨rfl, hb3⟩)
          | (go_at_call 83; refine (Hof.out _ hb3).mono ?_; rintro e w4 ⟨v4, rfl, hr4, hb4⟩; have hb4' := below_go hb4 hb3; have Hr4 := Lib.hid hr4; clear hr4)
          | (go_at_call 31; refine (Hsame.out _ _ hb4' Hr4.out).mono ?_; rintro e w5 ⟨rfl, hb5⟩))
        go_ret2
        refine ⟨_, by rw [Hr.out]; rfl, ?_, below_go hb5 (below_go hb4' HR.out.b)⟩
        rw [Hr.out]
        have h3 := own_down (own_below HR.out.own (below_go hb5 hb4')) (show w.heap.size ≤ g + 1 by have := HR.out.lg; omega)
        simp only
        rw [Hol.out] at h3 ⊢
        exact h3
    have hd1 : decide ((k : Int) < (N : Int)) = true := decide_eq_true (by omega)
    have hraw := fun W => Ref01.Raw_any ⟨bb, 0⟩ 32 W
    obtain ⟨x, hx⟩ : ∃ x, x = ((⟨bb, 0⟩ : Rdr).raw 32).1 := ⟨_, rfl⟩
    obtain ⟨r', hr'⟩ : ∃ r', r' = ((⟨bb, 0⟩ : Rdr).raw 32).2 := ⟨_, rfl⟩
    have hrl2 : rl (N - (k + 1)) r' (out ++ [pad x]) = rl N ⟨b2, 0⟩ [] := by rw [← Hrl.out, show N - k = N - (k + 1) + 1 by omega, rl_ok _ _ _ rfl, ← hx, ← hr']
    have hfx := HF.out.next rfl
    have hxo := raw_len ⟨bb, 0⟩ 32
    rw [show ((32 : Nat) : Int) = 32 from rfl] at hxo
    rw [← hx, ← hr'] at hraw hfx hxo
    have hraw' : ∀ W, Calls Try.prog 81 #[.agg #[.string (str bb), .int .i64 0], .int .i64 32] W fun e w' => e = .returned (.tuple #[.agg #[.string (str r'.b), .int .i64 (r'.bad : Int)], .string (str x)]) ∧ Below W.heap.size W w' := hraw
    have Hraw := Lib.hid hraw'
    have Hrl2 := Lib.hid hrl2
    have Hfx := Lib.hid hfx
    clear hx hr' hraw hraw' hrl2 hfx
    by_cases hbad : r'.bad = 0
    rotate_left
    · have hne : ((r'.bad : Int) != 0) = true := by rw [bne_iff_ne]; omega
      have Hr := Lib.hid (show read b most = ([], r'.bad) by rw [Hrd.out (r', out ++ [pad x]) (by rw [← Hrl2.out, rl_bad _ _ _ hbad]), if_pos hbad])
      clear hbad hxo
      obtain ⟨rb, rbd⟩ := r'
      simp only at hne Hr Hraw
      go_upto_region 11 with (first
        | (go_at_call 81; refine (Hraw.out _).mono ?_; rintro e w3 ⟨rfl, hb3⟩; have R3 := HR.out.below (below_go (below_one w3 (.cells #[.string (str rb), .int .i64 (rbd : Int)] 117)) hb3); have R3' := Lib.hid R3; have k0 : (w3.alloc (.cells #[.string (str rb), .int .i64 (rbd : Int)] 117)).cell? ⟨w3.heap.size, 0, none⟩ = some (.string (str rb)) := (by rw [blk_cell (heap_alloc_new _ _) 0]; rfl); have k1 : (w3.alloc (.cells #[.string (str rb), .int .i64 (rbd : Int)] 117)).cell? ⟨w3.heap.size, 1, none⟩ = some (.int .i64 (rbd : Int)) := (by rw [blk_cell (heap_alloc_new _ _) 1]; rfl); clear R3)
        | (refine Sha.wpList_store_all rfl 117 _ _ rfl g [.string (str rb), .int .i64 (rbd : Int)] [.string (str bb), .int .i64 0] rfl rfl (by intro v hv; simp at hv; rcases hv with rfl | rfl <;> rfl) rfl (by kernel_rfl) _ R3'.out.rd ?_; intro w4 hz4 hg4; have R4 := Lib.hid (R3'.out.set hz4.out hg4); have n1 : w4.cell? ⟨g, 1, none⟩ = some (.int .i64 (rbd : Int)) := (by rw [blk_cell hz4.out 1]; rfl)))
      (refine Ord.wp_region_ord [(false, 0), (false, 1), (false, 2), (false, 3)] (fun W => W.cell? ⟨g, 1, none⟩ = some (.int .i64 (rbd : Int))) (by kernel_rfl) (by kernel_rfl) (by kernel_rfl) (by kernel_rfl) (by exact n1) ?_; simp only [Ord.ordOps, List.filterMap_cons, List.filterMap_nil, List.getElem?_toArray, List.getElem?_cons_succ, List.getElem?_cons_zero, Option.map_some]; repeat (first | (refine Ord.wpOrd_skip ?_ ?_; (focus (go_simp; (try (intro h; cases h)); done)); simp only [Act.put, List.setIfInBounds_toArray, List.set_cons_zero, List.set_cons_succ]) | (refine Ord.wpOrd_take (v := ?_) ?_ ?_ ?_; rotate_left; (focus (go_simp; done)); (focus (intro w' hSw; (try dsimp only at hSw); go_simp; (try with_reducible rfl); done)); simp only [Act.put, List.setIfInBounds_toArray, List.set_cons_zero, List.set_cons_succ])))
      refine Ord.wpOrd_nil ?_
      go_wp2_with fail
      go_ret2
      exact ⟨_, by rw [Hr.out]; rfl, by rw [Hr.out]; exact own_nil _ _ _ _, R4.out.b.drew⟩
    have hx32 : x.length = 32 := by
      rcases hxo with ⟨h, -⟩ | ⟨-, h⟩
      · exact h
      · exact absurd hbad h
    obtain ⟨rb, rbd⟩ := r'
    simp only at hbad
    subst hbad
    have Hx := Lib.hid hx32
    have Hone := Lib.hid (show ∀ u ∈ bs x, u.oneCell' = true from bs_oneCell _)
    have hpx := pad_full hx32
    rw [hpx] at Hrl2 Hfx
    have hfo : (out ++ [x]).length * 32 ≤ b.length + 32 := Hfx.out.1
    rw [List.length_append, List.length_singleton, Hol.out] at hfo
    have hk40 : k + 1 ≤ 40000 := by have := Hb.out; omega
    clear hxo hpx hfo hx32
    go_upto_region 13 with (first
      | (go_at_call 81; refine (Hraw.out _).mono ?_; rintro e w3 ⟨rfl, hb3⟩; have R3 := HR.out.below (below_go (below_one w3 (.cells #[.string (str rb), .int .i64 0] 117)) hb3); have R3' := Lib.hid R3; have k0 : (w3.alloc (.cells #[.string (str rb), .int .i64 0] 117)).cell? ⟨w3.heap.size, 0, none⟩ = some (.string (str rb)) := (by rw [blk_cell (heap_alloc_new _ _) 0]; rfl); have k1 : (w3.alloc (.cells #[.string (str rb), .int .i64 0] 117)).cell? ⟨w3.heap.size, 1, none⟩ = some (.int .i64 0) := (by rw [blk_cell (heap_alloc_new _ _) 1]; rfl); clear R3)
      | (refine Sha.wpList_store_all rfl 117 _ _ rfl g [.string (str rb), .int .i64 0] [.string (str bb), .int .i64 0] rfl rfl (by intro v hv; simp at hv; rcases hv with rfl | rfl <;> rfl) rfl (by kernel_rfl) _ R3'.out.rd ?_; intro w4 hz4 hg4; have R4 := Lib.hid (R3'.out.set hz4.out hg4); have n1 : w4.cell? ⟨g, 1, none⟩ = some (.int .i64 0) := (by rw [blk_cell hz4.out 1]; rfl)))
    have hz5 : (w4.alloc (.cells #[.int .u8 0, .int .u8 0, .int .u8 0, .int .u8 0, .int .u8 0, .int .u8 0, .int .u8 0, .int .u8 0, .int .u8 0, .int .u8 0, .int .u8 0, .int .u8 0, .int .u8 0, .int .u8 0, .int .u8 0, .int .u8 0, .int .u8 0, .int .u8 0, .int .u8 0, .int .u8 0, .int .u8 0, .int .u8 0, .int .u8 0, .int .u8 0, .int .u8 0, .int .u8 0, .int .u8 0, .int .u8 0, .int .u8 0, .int .u8 0, .int .u8 0, .int .u8 0] 22)).heap[w4.heap.size]? = some (.cells (bs (part x 0)).toArray 22 (0, 0)) := by rw [part_zero]; exact heap_alloc_new _ _
    have R5 := R4.out.below (below_one w4 (.cells #[.int .u8 0, .int .u8 0, .int .u8 0, .int .u8 0, .int .u8 0, .int .u8 0, .int .u8 0, .int .u8 0, .int .u8 0, .int .u8 0, .int .u8 0, .int .u8 0, .int .u8 0, .int .u8 0, .int .u8 0, .int .u8 0, .int .u8 0, .int .u8 0, .int .u8 0, .int .u8 0, .int .u8 0, .int .u8 0, .int .u8 0, .int .u8 0, .int .u8 0, .int .u8 0, .int .u8 0, .int .u8 0, .int .u8 0, .int .u8 0, .int .u8 0, .int .u8 0] 22))
    have hoG : (Value.slice Ao k co).ownBlock ≠ some w4.heap.size := fun e => by have := R4.out.lt _ e; omega
    have hgG : w4.heap.size ≠ g := by have := blk_lt R4.out.rd; omega
    have hwG : w.heap.size ≤ w4.heap.size := R4.out.b.size
    generalize w4.alloc (.cells #[.int .u8 0, .int .u8 0, .int .u8 0, .int .u8 0, .int .u8 0, .int .u8 0, .int .u8 0, .int .u8 0, .int .u8 0, .int .u8 0, .int .u8 0, .int .u8 0, .int .u8 0, .int .u8 0, .int .u8 0, .int .u8 0, .int .u8 0, .int .u8 0, .int .u8 0, .int .u8 0, .int .u8 0, .int .u8 0, .int .u8 0, .int .u8 0, .int .u8 0, .int .u8 0, .int .u8 0, .int .u8 0, .int .u8 0, .int .u8 0, .int .u8 0, .int .u8 0] 22) = w5 at hz5 R5 ⊢
    generalize w4.heap.size = G at hz5 hoG hgG hwG ⊢
    have Hz5 := Lib.hid hz5
    have R5' := Lib.hid R5
    have HoG := Lib.hid hoG
    clear hz5 R5 hoG c0 c1 k0 k1 n1 R3' R4 hz4 hg4 HR Hraw hb3
    go_wp2_with fail
    go_loopw [13] (fun j_ wr => ∃ j : Nat, j ≤ 32 ∧ j_ = .int .i64 (j : Int) ∧ Hid (wr.heap[G]? = some (.cells (bs (part x j)).toArray 22 (0, 0))) ∧ Hid (RV w wr g (.cells #[.string (str rb), .int .i64 0] 117 (0, 0)) (.slice Ao k co) out)) (fun j_ _ => 32 - (intOf j_).toNat)
    case atStart => exact ⟨0, by omega, rfl, Hz5, R5'⟩
    case round =>
      obtain ⟨j, hj, rfl, Hz, HR⟩ := hrel
      by_cases hj32 : j < 32
      rotate_left
      · obtain rfl : j = 32 := by omega
        have hz := Hz.out
        rw [part_all Hx.out] at hz
        obtain ⟨X, hX⟩ : ∃ X, X = bs x := ⟨_, rfl⟩
        rw [← hX] at hz Hone
        have HXl := Lib.hid (show X.length = 32 by rw [hX, bs_length, Hx.out])
        have Hi1 := Lib.hid (show (Try.prog.info? 22).map (·.size) = some X.length by rw [HXl.out]; rfl)
        have Hra := Lib.hid (range_all hz)
        have HX := Lib.hid hX
        clear hz hX
        go_wp2_with (first
          | (refine wpList_load_mid rfl 22 _ rfl G 0 rfl X _ Hra.out Try.underlying22 rfl Hi1.out ?_)
          | (refine wpList_plain rfl (fun K hK => wp_build_one elR (by decide) _ rfl X rfl HXl.out (hK _ _ ?_)))
          | (refine wpList_plain rfl (fun K hK => Ord.wp_app_row elR (.tmp 51) (.tmp 53) rfl (g + 1) (.slice Ao k co) _ k 1 (ix out) X rfl rfl Hone.out (by have h := (HR.out.below (below_one wr (.cells X.toArray 22))).own; rw [Hol.out] at h; exact h) (Rd.lit wr 32 1 X 22 (by rw [HXl.out]) (by simp [maxLen])) (by have := blk_lt HR.out.rd; rw [alloc_size]; omega) (by omega) (fun v1 w7 ho7 hg7 hat7 => hK _ _ ?_)); obtain ⟨A7, c7, rfl, -, -, -⟩ := (Rd.of_own ho7).slice_; have R7 := Lib.hid ((HR.out.below (below_one wr (.cells X.toArray 22))).app (out' := out ++ [x]) (by rw [List.length_append, ix_append, ix_one, ← HX.out, Hol.out]; exact ho7) hg7)))
        exact ⟨⟨k + 1, rb, out ++ [x], A7, c7, by go_num, by omega, rfl, hk40, Lib.hid (by rw [List.length_append, Hol.out]; rfl), Hrl2, R7, Lib.hid (H32.out.app (W32.one Hx.out)), Hfx⟩, by simp only [intOf]; omega⟩
      have hd2 : decide ((j : Int) < 32) = true := decide_eq_true (by omega)
      have j0 : (0 : Int) ≤ (j : Int) := by omega
      have j1 : (j : Int) < 32 := by omega
      have hxl : x.length = 32 := Hx.out
      have hset := blk_set Hz.out j (.int .u8 ((x.getD j 0).toNat : Int))
      rw [List.setIfInBounds_toArray, part_set hxl j hj32] at hset
      have hcell : (wr.cell? ⟨G, j, none⟩).isSome = true := by
        rw [blk_cell Hz.out j]; simp only [List.getElem?_toArray]; rw [List.getElem?_eq_getElem (by rw [bs_length, part, List.length_append, List.length_take, List.length_replicate]; omega)]; rfl
      obtain ⟨cv, hcv⟩ := Option.isSome_iff_exists.1 hcell
      have hfz := blk_frozen Hz.out j
      have R6 := Lib.hid (HR.out.other (grown_setCell wr G j (.int .u8 ((x.getD j 0).toNat : Int))) hgG HoG.out hwG)
      have Hset := Lib.hid hset
      have hjx : j < x.length := by omega
      have hidx := str_idx x j hjx
      have hsz := str_size x
      have hgx : x.getD j 0 = x[j] := by rw [List.getD_eq_getElem?_getD, List.getElem?_eq_getElem hjx]; rfl
      rw [hgx] at Hset R6
      clear hset hcell hidx hgx
      go_wp2_with fail
      exact ⟨⟨j + 1, by omega, by go_num, Hset, R6⟩, by simp only [intOf]; omega⟩
end Go.Proofs.Ytpldkplfdbjidaa.Ids
