/- Updates' walks: Read. -/
import Derived.Test.YtcjabfdjngekfaaUpdW3
import Derived.Test.YtcjabfdjngekfaaIdsR
import Derived.Test.YtcjabfdjngekfaaShaConsts
set_option linter.unusedVariables false
set_option linter.unusedSimpArgs false
namespace Go.Proofs.Ytcjabfdjngekfaa.Upd
open Go.RowKit Go.Proofs.Ytcjabfdjngekfaa.Wd Go.Proofs.Ytcjabfdjngekfaa.Use Go.Proofs.Ytcjabfdjngekfaa.Lay Go.Proofs.Ytcjabfdjngekfaa.Ids

def zcs : List Value := [.int .i64 0, .int .u64 0, .slice none 0 0, .int .i64 0, .string ⟨#[]⟩, .string ⟨#[]⟩]
/-- what a reading holds: the result's block, the reader's, the update's -/
structure RU (w W : World) (g : Nat) (r : Rdr) (G : Nat) (cs : List Value) : Prop where
  z : W.heap[w.heap.size]? = some (.cells zcs.toArray 97 (0, 0))
  rd : RdrAt W g r
  ev : W.heap[G]? = some (.cells cs.toArray 97 (0, 0))
  gG : g ≠ G
  lg : w.heap.size < g
  lG : w.heap.size < G
  b : Below w.heap.size w W
variable {w W W1 : World} {g : Nat} {r r' : Rdr} {G : Nat} {cs : List Value}
theorem RU.left (h : RU w W g r G cs) (hl : Lay.Left W g r' W1) : RU w W1 g r' G cs :=
  ⟨blk_grown h.z hl.2 (by intro e; injection e with e; have := h.lg; omega), hl.1, blk_grown h.ev hl.2 (by intro e; injection e with e; exact h.gG e.symm), h.gG, h.lg, h.lG, h.b.grown hl.2 h.b.size (fun k hk => by injection hk with hk; have := h.lg; omega)⟩
theorem RU.below (h : RU w W g r G cs) (hb : Below W.heap.size W W1) : RU w W1 g r G cs := ⟨blk_below h.z hb, h.rd.below hb, blk_below h.ev hb, h.gG, h.lg, h.lG, below_go hb h.b⟩
theorem RU.set (h : RU w W g r G cs) (i : Nat) (v : Value) : RU w (W.setCell ⟨G, i, none⟩ v) g r G (cs.set i v) :=
  ⟨blk_far h.z (by have := h.lG; show w.heap.size ≠ G; omega) _, blk_far h.rd h.gG _, by have := blk_set h.ev i v; rwa [List.setIfInBounds_toArray] at this, h.gG, h.lg, h.lG, h.b.setCell (by have := h.lG; show w.heap.size ≤ G; omega) _⟩
theorem raw_le (r : Rdr) (n : Nat) : (r.raw n).1.length ≤ r.b.length ∧ (r.raw n).2.b.length ≤ r.b.length := by
  unfold Rdr.raw
  split
  · split
    · simp [Rdr.stop]
    · split
      · simp [Rdr.stop]
      · simp only [List.length_take, List.length_drop]; omega
  · simp
theorem num_le (r : Rdr) : r.number.2.b.length ≤ r.b.length := by
  by_cases h : r.number.2.bad = 0
  · exact Ids.rnum_len r h
  · by_cases h0 : r.bad = 0
    · rw [number_ended r h h0]; simp
    · have : r.number = (0, r) := by unfold Rdr.number; rw [if_neg h0]
      rw [this]; exact Nat.le_refl _
theorem sml_le (r : Rdr) (M : Int) : (r.small M).2.b.length ≤ r.b.length := by
  unfold Rdr.small
  split
  · simp [Rdr.stop]
  · exact num_le r
theorem txt_le (r : Rdr) (M : Int) : (r.text M).1.length ≤ r.b.length ∧ (r.text M).2.b.length ≤ r.b.length := by
  have h1 := sml_le r M
  have h2 := raw_le (r.small M).2 (r.small M).1
  unfold Rdr.text
  omega
theorem sml_top (r : Rdr) (m : Nat) : (r.small m).1 ≤ m := by
  unfold Rdr.small
  split
  · simp
  · rename_i h
    by_cases hb : r.number.2.bad = 0
    · simp only [hb, true_and, not_or] at h; omega
    · have := r.number_bad hb; omega
theorem chain_le (b : List UInt8) (p1 p2 p3 : Nat × Rdr) (p4 p5 p6 : List UInt8 × Rdr) (h1 : p1 = (⟨b, 0⟩ : Rdr).small 15) (h2 : p2 = p1.2.number) (h3 : p3 = p2.2.small 2) (h4 : p4 = p3.2.text 64) (h5 : p5 = p4.2.text 64) (h6 : p6 = p5.2.raw (p5.2.b.length : Nat)) :
    p1.1 ≤ 15 ∧ p2.1 < 18446744073709551616 ∧ p3.1 ≤ 2 ∧ p4.1.length ≤ b.length ∧ p5.1.length ≤ b.length ∧ p6.1.length ≤ b.length := by
  have k1 := sml_top ⟨b, 0⟩ 15
  have k3 := sml_top p2.2 2
  have e1 := sml_le ⟨b, 0⟩ 15
  have e2 := num_le p1.2
  have e3 := sml_le p2.2 2
  have e4 := txt_le p3.2 64
  have e5 := txt_le p4.2 64
  have e6 := raw_le p5.2 p5.2.b.length
  have k2 := Rdr.number_lt p1.2
  rw [show ((15 : Nat) : Int) = 15 from rfl, ← h1] at k1
  rw [show ((2 : Nat) : Int) = 2 from rfl, ← h3] at k3
  rw [← h1] at e1
  rw [← h2] at e2 k2
  rw [← h3] at e3
  rw [← h4] at e4
  rw [← h5] at e5
  rw [← h6] at e6
  simp only at e1
  exact ⟨k1, k2, k3, by omega, by omega, by omega⟩
theorem q_le (b : List UInt8) : (q1 b).1 ≤ 15 ∧ (q2 b).1 < 18446744073709551616 ∧ (q3 b).1 ≤ 2 ∧ (q4 b).1.length ≤ b.length ∧ (q5 b).1.length ≤ b.length ∧ (q6 b).1.length ≤ b.length :=
  chain_le b (q1 b) (q2 b) (q3 b) (q4 b) (q5 b) (q6 b) rfl rfl rfl rfl rfl rfl
def errR (b : List UInt8) : Nat := if U.good b then 0 else 11
theorem zero_in (W : World) : UIn W U.zero (.slice none 0 0) := ⟨Rd.nil _ _, W32.nil, by unfold I64 U.zero; simp, by unfold I64 U.zero; simp, by unfold U.zero; simp, by unfold U.zero; simp, by unfold U.zero; simp⟩
theorem raw_in {b : List UInt8} (hb : b.length ≤ 100000) {W : World} {pv : Value} (h : Rd W 32 pv (U.raw b).ps.length (ix (U.raw b).ps)) (h32 : W32 (U.raw b).ps) : UIn W (U.raw b) pv := by
  obtain ⟨k1, k2, k3, k4, k5, -⟩ := q_le b
  have hrau : (U.raw b).au = ((q1 b).1 : Int) := by unfold U.raw; dsimp only
  have hrkd : (U.raw b).kd = ((q3 b).1 : Int) := by unfold U.raw; dsimp only
  have hrky : (U.raw b).ky = (q4 b).1 := by unfold U.raw; dsimp only
  have hrvl : (U.raw b).vl = (q5 b).1 := by unfold U.raw; dsimp only
  refine ⟨h, h32, ?_, ?_, by rw [raw_ct]; exact k2, ?_, ?_⟩
  · rw [hrau]; unfold I64; omega
  · rw [hrkd]; unfold I64; omega
  · rw [hrky]; omega
  · rw [hrvl]; omega
theorem u32 : ∀ v ∈ zcs, v.oneCell' = true := by intro v hv; simp [zcs] at hv; rcases hv with rfl | rfl | rfl | rfl | rfl | rfl <;> rfl
set_option maxRecDepth 100000 in
set_option maxHeartbeats 16000000 in
theorem Read_any (b : List UInt8) (w : World) (hb : b.length ≤ 100000) : Calls Try.prog 63 #[.string (str b)] w fun e w' => ∃ pv, e = .returned (.tuple #[.agg #[.int .i64 (U.read b).au, .int .u64 ((U.read b).ct : Int), pv, .int .i64 (U.read b).kd, .string (str (U.read b).ky), .string (str (U.read b).vl)], .int .i64 (errR b : Int)]) ∧ UIn w' (U.read b) pv ∧ Below w.heap.size w w' := by
  obtain ⟨k1, k2, k3, k4, k5, k6⟩ := q_le b
  have hread := fun W => Lay.Read_any b W
  have hs1 : ∀ W g, RdrAt W g ⟨b, 0⟩ → Calls Try.prog 104 #[.pointer (some ⟨g, 0, none⟩), .int .i64 15] W fun e w' => e = .returned (.int .i64 ((q1 b).1 : Int)) ∧ Lay.Left W g (q1 b).2 w' := fun W g h => Small_any g ⟨b, 0⟩ 15 W h (by omega)
  have hs2 : ∀ W g, RdrAt W g (q1 b).2 → Calls Try.prog 103 #[.pointer (some ⟨g, 0, none⟩)] W fun e w' => e = .returned (.int .u64 ((q2 b).1 : Int)) ∧ Lay.Left W g (q2 b).2 w' := fun W g h => Number_any g _ W h
  have hs3 : ∀ W g, RdrAt W g (q2 b).2 → Calls Try.prog 104 #[.pointer (some ⟨g, 0, none⟩), .int .i64 2] W fun e w' => e = .returned (.int .i64 ((q3 b).1 : Int)) ∧ Lay.Left W g (q3 b).2 w' := fun W g h => Small_any g _ 2 W h (by omega)
  have hs4 : ∀ W g, RdrAt W g (q3 b).2 → Calls Try.prog 105 #[.pointer (some ⟨g, 0, none⟩), .int .i64 64] W fun e w' => e = .returned (.string (str (q4 b).1)) ∧ Lay.Left W g (q4 b).2 w' := fun W g h => Text_any g _ 64 W h (by omega)
  have hs5 : ∀ W g, RdrAt W g (q4 b).2 → Calls Try.prog 105 #[.pointer (some ⟨g, 0, none⟩), .int .i64 64] W fun e w' => e = .returned (.string (str (q5 b).1)) ∧ Lay.Left W g (q5 b).2 w' := fun W g h => Text_any g _ 64 W h (by omega)
  have hs6 : ∀ W g, RdrAt W g (q5 b).2 → Calls Try.prog 124 #[.pointer (some ⟨g, 0, none⟩)] W fun e w' => e = .returned (.int .i64 ((q5 b).2.b.length : Nat)) ∧ W = w' := fun W g h => Left_any g _ W h
  have hs7 : ∀ W g, RdrAt W g (q5 b).2 → Calls Try.prog 123 #[.pointer (some ⟨g, 0, none⟩), .int .i64 ((q5 b).2.b.length : Nat)] W fun e w' => e = .returned (.string (str (q6 b).1)) ∧ Lay.Left W g (q6 b).2 w' := fun W g h => Raw_any g _ _ W h
  have hs8 := fun W => Ids.Read_any (q6 b).1 8 (by omega) (by omega) W
  have hs9 := fun W g (h : RdrAt W g (q6 b).2) => End_any g (q6 b).2 W h
  have hgood : U.good b = (decide ((q6 b).2.fin = 0) && decide ((Ids.read (q6 b).1 8).2 = 0) && (U.raw b).right) := by unfold U.good; rfl
  have hrau : (U.raw b).au = ((q1 b).1 : Int) := by unfold U.raw; dsimp only
  have hrkd : (U.raw b).kd = ((q3 b).1 : Int) := by unfold U.raw; dsimp only
  have hrky : (U.raw b).ky = (q4 b).1 := by unfold U.raw; dsimp only
  have hrvl : (U.raw b).vl = (q5 b).1 := by unfold U.raw; dsimp only
  have hrct := raw_ct b
  have hrps := raw_ps b
  have hri : ∀ W pv, Rd W 32 pv (U.raw b).ps.length (ix (U.raw b).ps) → W32 (U.raw b).ps → Calls Try.prog 61 #[.agg #[.int .i64 ((q1 b).1 : Int), .int .u64 ((q2 b).1 : Int), pv, .int .i64 ((q3 b).1 : Int), .string (str (q4 b).1), .string (str (q5 b).1)]] W fun e w' => e = .returned (.bool (U.raw b).right) ∧ Below W.heap.size W w' := by
    intro W pv h h32
    have h1 := Right_any (U.raw b) pv W (raw_in hb h h32)
    rw [hrau, hrkd, hrky, hrvl, hrct] at h1
    exact h1
  have hin : ∀ W pv, Rd W 32 pv (U.raw b).ps.length (ix (U.raw b).ps) → W32 (U.raw b).ps → UIn W (U.raw b) pv := fun W pv h h32 => raw_in hb h h32
  rw [hrps] at hri hin
  have Hread0 := Lib.hid (show U.read b = if U.good b then U.raw b else U.zero from rfl)
  have Herr := Lib.hid (show errR b = if U.good b then 0 else 11 from rfl)
  have Hraw := Lib.hid (And.intro hrau (And.intro hrct (And.intro hrkd (And.intro hrky hrvl))))
  generalize U.read b = ur at Hread0 ⊢
  generalize errR b = er at Herr ⊢
  generalize U.raw b = uw at hgood hri hin Hread0 Hraw
  generalize U.good b = gd at hgood Hread0 Herr
  generalize Ids.read (q6 b).1 8 = rdp at hs8 hgood hri hin
  generalize hfi : (q6 b).2.fin = fi at hs9 hgood
  generalize (q6 b).1 = x6 at *
  generalize (q5 b).2.b.length = n5 at *
  clear hrau hrkd hrky hrvl hrct hrps hfi k4 k5 k6
  generalize (q6 b).2 = r6 at *
  generalize (q5 b).2 = r5 at *
  generalize (q4 b).2 = r4 at *
  generalize (q3 b).2 = r3 at *
  generalize (q2 b).2 = r2 at *
  generalize (q1 b).2 = r1 at *
  generalize (q1 b).1 = a1 at *
  generalize (q2 b).1 = a2 at *
  generalize (q3 b).1 = a3 at *
  generalize (q4 b).1 = a4 at *
  generalize (q5 b).1 = a5 at *
  obtain ⟨pl, pe⟩ := rdp
  simp only at hs8 hgood hri hin
  have Hs0 := Lib.hid hread
  have Hs1 := Lib.hid hs1
  have Hs2 := Lib.hid hs2
  have Hs3 := Lib.hid hs3
  have Hs4 := Lib.hid hs4
  have Hs5 := Lib.hid hs5
  have Hs6 := Lib.hid hs6
  have Hs7 := Lib.hid hs7
  have Hs8 := Lib.hid hs8
  have Hs9 := Lib.hid hs9
  have Hri := Lib.hid hri
  have Hin := Lib.hid hin
  have Hgo := Lib.hid hgood
  clear hread hs1 hs2 hs3 hs4 hs5 hs6 hs7 hs8 hs9 hri hin hgood k1 k2 k3
  go_enter Try.func63, Try.ntmps63
  go_upto_region 3 with (first
    | (go_at_call 102; refine (Hs0.out _).mono ?_; rintro e w1 ⟨rfl, hr1, hb1⟩; rw [alloc_size] at hr1; have hz1 := Lib.hid (blk_below (heap_alloc_new w _) hb1); have hB1 := below_go hb1 (below_one w _); clear hb1)
    | (go_at_call 104; refine (Hs1.out _ _ hr1).mono ?_; rintro e w2 ⟨rfl, hr2, hg2⟩; have hz2 := Lib.hid (blk_grown hz1.out hg2 (by intro e; injection e with e; omega)); have hB2 := hB1.grown hg2 hB1.size (fun k hk => by injection hk with hk; omega); clear hg2 hr1)
    | (go_at_call 103; refine (Hs2.out _ _ hr2).mono ?_; rintro e w3 ⟨rfl, hr3, hg3⟩; have hz3 := Lib.hid (blk_grown hz2.out hg3 (by intro e; injection e with e; omega)); have hB3 := hB2.grown hg3 hB2.size (fun k hk => by injection hk with hk; omega); clear hg3 hr2)
    | (go_at_call 104; refine (Hs3.out _ _ hr3).mono ?_; rintro e w4 ⟨rfl, hr4, hg4⟩; have hz4 := Lib.hid (blk_grown hz3.out hg4 (by intro e; injection e with e; omega)); have hB4 := hB3.grown hg4 hB3.size (fun k hk => by injection hk with hk; omega); clear hg4 hr3))
  have R5 : RU w (w4.alloc (.cells #[.int .i64 (a1 : Int), .int .u64 (a2 : Int), .slice none 0 0, .int .i64 (a3 : Int), .string ⟨#[]⟩, .string ⟨#[]⟩] 97)) (w.heap.size + 1) r3 w4.heap.size [.int .i64 (a1 : Int), .int .u64 (a2 : Int), .slice none 0 0, .int .i64 (a3 : Int), .string ⟨#[]⟩, .string ⟨#[]⟩] :=
    ⟨blk_alloc hz4.out _, blk_alloc hr4 _, heap_alloc_new _ _, (by have := blk_lt hr4; omega), (by omega), (by have := blk_lt hr4; omega), hB4.alloc hB4.size _⟩
  generalize w4.heap.size = G at R5 ⊢
  generalize w4.alloc (.cells #[.int .i64 (a1 : Int), .int .u64 (a2 : Int), .slice none 0 0, .int .i64 (a3 : Int), .string ⟨#[]⟩, .string ⟨#[]⟩] 97) = w5 at R5 ⊢
  obtain ⟨g, hg⟩ : ∃ g, g = w.heap.size + 1 := ⟨_, rfl⟩
  rw [← hg] at R5
  simp only [← hg]
  clear hr4 hz1 hz2 hz3 hz4 hB1 hB2 hB3 hB4 hg Hs0 Hs1 Hs2 Hs3
  have R5' := Lib.hid R5
  clear R5
  go_upto_region 6 with (first
    | (go_at_call 105; refine (Hs4.out _ _ R5'.out.rd).mono ?_; rintro e w6 ⟨rfl, hl6⟩; have R6 := Lib.hid (R5'.out.left hl6); clear hl6 R5' Hs4)
    | (go_at_call 105; refine (Hs5.out _ _ R6.out.rd).mono ?_; rintro e w7 ⟨rfl, hl7⟩; have R7 := R6.out.left hl7; clear hl7 R6 Hs5; obtain ⟨c0, c1, c2, c3, c4, c5⟩ := ucells R7.ev; have f2 := blk_frozen R7.ev 2; have f4 := blk_frozen R7.ev 4; have f5 := blk_frozen R7.ev 5; have R8 := Lib.hid ((R7.set 4 (.string (str a4))).set 5 (.string (str a5))); clear R7)
    | (go_at_call 124; refine (Hs6.out _ _ R8.out.rd).mono ?_; rintro e w' ⟨rfl, rfl⟩)
    | (go_at_call 123; refine (Hs7.out _ _ R8.out.rd).mono ?_; rintro e w9 ⟨rfl, hl9⟩; have R9 := Lib.hid (R8.out.left hl9); clear hl9 R8 c0 c1 c2 c3 c4 c5 f2 f4 f5)
    | (go_at_call 122; refine (Hs8.out _).mono ?_; rintro e w10 ⟨pv, rfl, h32, ho, hb10⟩; have R10 := R9.out.below hb10; obtain ⟨c0, c1, c2, c3, c4, c5⟩ := ucells R10.ev; have f2 := blk_frozen R10.ev 2; obtain ⟨Ap, cp, rfl, -, -, -⟩ := (Rd.of_own ho).slice_; have Hrp := Lib.hid (Rd.grown (Rd.of_own ho) (grown_setCell w10 G 2 (.slice Ap pl.length cp)) (fun k hk e => by injection hk with hk; have h1 := own_base ho _ e; have h2 := blk_lt R9.out.ev; omega)); have H32 := Lib.hid h32; have R11 := Lib.hid (R10.set 2 (.slice Ap pl.length cp)); have Hob := Lib.hid (show ∀ k, (Value.slice Ap pl.length cp).ownBlock = some k → G < k from fun k e => by have h1 := own_base ho k e; have h2 := blk_lt R9.out.ev; omega); clear h32 ho hb10 R9 R10))
  clear c0 c1 c2 c3 c4 c5 f2
  by_cases h1 : fi = 0
  rotate_left
  · have d1 : ((fi : Int) != 0) = true := by rw [bne_iff_ne]; omega
    have Hbad := Lib.hid (show gd = false by rw [Hgo.out, decide_eq_false h1]; rfl)
    clear h1
    have Hu := Lib.hid (show ur = U.zero by rw [Hread0.out, Hbad.out]; rfl)
    have He := Lib.hid (show er = 11 by rw [Herr.out, Hbad.out]; rfl)
    go_wp2_with (first
      | (refine Sha.wpList_store_all rfl 97 _ _ rfl w.heap.size zcs zcs rfl rfl u32 rfl (by kernel_rfl) _ R11.out.z ?_; intro w12 hz12 hg12)
      | (go_at_call 106; refine (Hs9.out _ _ R11.out.rd).mono ?_; rintro e w' ⟨rfl, rfl⟩)
      | (go_at_call 61; refine (Hri.out _ _ Hrp.out H32.out).mono ?_; rintro e w8 ⟨rfl, hb8⟩; have R12 := Lib.hid (R11.out.below hb8)))
    refine bodyPost_ret (v := .tuple #[.agg zcs.toArray, .int .i64 11]) (Use.results_cell_tmp rfl _ _ w.heap.size zcs _ _ rfl rfl (range_all hz12.out) Try.underlying97 rfl (by kernel_rfl)) rfl ?_
    rw [Hu.out, He.out]
    exact ⟨_, rfl, zero_in _, R11.out.b.grown hg12 R11.out.b.size (fun k hk => by injection hk with hk; omega)⟩
  subst h1
  by_cases h2 : pe = 0
  rotate_left
  · have d2 : ((pe : Int) != 0) = true := by rw [bne_iff_ne]; omega
    have Hbad := Lib.hid (show gd = false by rw [Hgo.out, decide_eq_false h2]; simp)
    clear h2
    have Hu := Lib.hid (show ur = U.zero by rw [Hread0.out, Hbad.out]; rfl)
    have He := Lib.hid (show er = 11 by rw [Herr.out, Hbad.out]; rfl)
    go_wp2_with (first
      | (refine Sha.wpList_store_all rfl 97 _ _ rfl w.heap.size zcs zcs rfl rfl u32 rfl (by kernel_rfl) _ R11.out.z ?_; intro w12 hz12 hg12)
      | (go_at_call 106; refine (Hs9.out _ _ R11.out.rd).mono ?_; rintro e w' ⟨rfl, rfl⟩)
      | (go_at_call 61; refine (Hri.out _ _ Hrp.out H32.out).mono ?_; rintro e w8 ⟨rfl, hb8⟩; have R12 := Lib.hid (R11.out.below hb8)))
    refine bodyPost_ret (v := .tuple #[.agg zcs.toArray, .int .i64 11]) (Use.results_cell_tmp rfl _ _ w.heap.size zcs _ _ rfl rfl (range_all hz12.out) Try.underlying97 rfl (by kernel_rfl)) rfl ?_
    rw [Hu.out, He.out]
    exact ⟨_, rfl, zero_in _, R11.out.b.grown hg12 R11.out.b.size (fun k hk => by injection hk with hk; omega)⟩
  subst h2
  cases hrt : uw.right with
  | false =>
    have Hbad := Lib.hid (show gd = false by rw [Hgo.out, hrt]; simp)
    obtain ⟨c0, c1, c2, c3, c4, c5⟩ := ucells R11.out.ev
    rw [hrt] at Hri
    clear hrt
    have Hu := Lib.hid (show ur = U.zero by rw [Hread0.out, Hbad.out]; rfl)
    have He := Lib.hid (show er = 11 by rw [Herr.out, Hbad.out]; rfl)
    go_wp2_with (first
      | (refine Sha.wpList_store_all rfl 97 _ _ rfl w.heap.size zcs zcs rfl rfl u32 rfl (by kernel_rfl) _ R12.out.z ?_; intro w12 hz12 hg12)
      | (go_at_call 106; refine (Hs9.out _ _ R11.out.rd).mono ?_; rintro e w' ⟨rfl, rfl⟩)
      | (go_at_call 61; refine (Hri.out _ _ Hrp.out H32.out).mono ?_; rintro e w8 ⟨rfl, hb8⟩; have R12 := Lib.hid (R11.out.below hb8)))
    refine bodyPost_ret (v := .tuple #[.agg zcs.toArray, .int .i64 11]) (Use.results_cell_tmp rfl _ _ w.heap.size zcs _ _ rfl rfl (range_all hz12.out) Try.underlying97 rfl (by kernel_rfl)) rfl ?_
    rw [Hu.out, He.out]
    exact ⟨_, rfl, zero_in _, R12.out.b.grown hg12 R12.out.b.size (fun k hk => by injection hk with hk; omega)⟩
  | true =>
    have Hok := Lib.hid (show gd = true by rw [Hgo.out, hrt]; rfl)
    rw [hrt] at Hri
    have Hu := Lib.hid (show ur = uw by rw [Hread0.out, Hok.out]; rfl)
    have He := Lib.hid (show er = 0 by rw [Herr.out, Hok.out]; rfl)
    clear hrt
    obtain ⟨cs, hcs⟩ : ∃ cs : List Value, cs = [.int .i64 (a1 : Int), .int .u64 (a2 : Int), .slice Ap pl.length cp, .int .i64 (a3 : Int), .string (str a4), .string (str a5)] := ⟨_, rfl⟩
    have Hcs := Lib.hid hcs
    have Hone := Lib.hid (show ∀ v ∈ cs, v.oneCell' = true by rw [hcs]; intro v hv; simp at hv; rcases hv with rfl | rfl | rfl | rfl | rfl | rfl <;> rfl)
    have Hlen := Lib.hid (show cs.length = zcs.length by rw [hcs]; rfl)
    have Hinf := Lib.hid (show (Try.prog.info? 97).map (·.size) = some cs.length by rw [hcs]; kernel_rfl)
    clear hcs
    obtain ⟨c0, c1, c2, c3, c4, c5⟩ := ucells R11.out.ev
    go_wp2_with (first
      | (refine Sha.wpList_store_all rfl 97 _ _ rfl w.heap.size cs zcs rfl (by rw [Hcs.out]; rfl) Hone.out Hlen.out Hinf.out _ R12.out.z ?_; intro w12 hz12 hg12)
      | (go_at_call 106; refine (Hs9.out _ _ R11.out.rd).mono ?_; rintro e w' ⟨rfl, rfl⟩)
      | (go_at_call 61; refine (Hri.out _ _ Hrp.out H32.out).mono ?_; rintro e w8 ⟨rfl, hb8⟩; have R12 := Lib.hid (R11.out.below hb8); have Hrp2 := Lib.hid (Hrp.out.below hb8); clear c0 c1 c2 c3 c4 c5; obtain ⟨c0, c1, c2, c3, c4, c5⟩ := ucells R12.out.ev))
    have Hrp3 := Rd.grown Hrp2.out hg12 (fun k hk e => by injection hk with hk; have h1 := Hob.out _ e; have h2 := R12.out.lG; omega)
    refine bodyPost_ret (v := .tuple #[.agg cs.toArray, .int .i64 0]) (Use.results_cell_tmp rfl _ _ w.heap.size cs _ _ rfl rfl (range_all hz12.out) Try.underlying97 rfl Hinf.out) rfl ?_
    obtain ⟨e1, e2, e3, e4, e5⟩ := Hraw.out
    rw [Hu.out, He.out, Hcs.out, e1, e2, e3, e4, e5]
    exact ⟨_, rfl, Hin.out _ _ Hrp3 H32.out, R12.out.b.grown hg12 R12.out.b.size (fun k hk => by injection hk with hk; omega)⟩
end Go.Proofs.Ytcjabfdjngekfaa.Upd
