/- Walks of layer 26: the reference's Read. -/
import Derived.Test.YtcjabfdjngekfaaRelW5
set_option linter.unusedVariables false
set_option linter.unusedSimpArgs false
namespace Go.Proofs.Ytcjabfdjngekfaa.Rel
open Go.RowKit Go.Proofs.Ytcjabfdjngekfaa.Wd Go.Proofs.Ytcjabfdjngekfaa.Use Go.Proofs.Ytcjabfdjngekfaa.Lay

def XO (r : Rdr) : Obj := .cells #[.string (str r.b), .int .i64 (r.bad : Int)] 149 (0, 0)
variable {t : TypeId} {w W W1 : World} {g : Nat} {O : Obj} {G : Nat} {hv : Value} {hops : List Int} {lim : Int} {s : ByteArray}
theorem RS.put2 {r r' : Rdr} (h : RS t w W g (XO r) G hv hops lim s) : RS t w ((W.setCell ⟨g, 0, none⟩ (.string (str r'.b))).setCell ⟨g, 1, none⟩ (.int .i64 (r'.bad : Int))) g (XO r') G hv hops lim s :=
  h.left (blk_set (blk_set h.rd 0 _) 1 _) ((grown_setCell _ _ _ _).trans (grown_setCell _ _ _ _))
theorem cells2 {W : World} {g : Nat} {r : Rdr} (h : W.heap[g]? = some (XO r)) : W.cell? ⟨g, 0, none⟩ = some (.string (str r.b)) ∧ W.cell? ⟨g, 1, none⟩ = some (.int .i64 (r.bad : Int)) ∧ W.frozen? ⟨g, 0, none⟩ = false ∧ W.frozen? ⟨g, 1, none⟩ = false :=
  ⟨by rw [blk_cell h 0]; rfl, by rw [blk_cell h 1]; rfl, blk_frozen h 0, blk_frozen h 1⟩
set_option maxRecDepth 100000 in
set_option maxHeartbeats 8000000 in
theorem rread_any (s : List UInt8) (w : World) (hs : s.length ≤ 100000) : Calls Try.prog 41 #[.string (str s)] w fun e w' => ∃ hv, e = .returned (.tuple #[.agg #[hv, .int .i64 (E.read s).limit, .string (str (E.read s).inner)], .bool (E.good s)]) ∧ Rd w' 1 hv (E.read s).hops.length (is (E.read s).hops) ∧ Below w.heap.size w w' := by
  have hgo : E.good s = (decide (kindOf s = 3) && decide ((rd5 s).fin = 0) && (E.raw s).right) := rfl
  obtain ⟨kd, hkd⟩ : ∃ k, k = kindOf s := ⟨_, rfl⟩
  have hk1 : (Rdr.number ⟨s, 0⟩).1 = kd := hkd.symm
  have hk2 : (Rdr.number ⟨s, 0⟩).2 = rd1 s := rfl
  obtain ⟨lm, hlm⟩ : ∃ k, k = ((rd1 s).small 8).1 := ⟨_, rfl⟩
  have hl2 : ((rd1 s).small 8).2 = rd2 s := rfl
  obtain ⟨nn, hnn⟩ : ∃ k, k = rdN s := ⟨_, rfl⟩
  have hn2 : ((rd2 s).small 8).1 = nn := hnn.symm
  have hn3 : ((rd2 s).small 8).2 = rd3 s := rfl
  have hnn8 : nn ≤ 8 := by rw [hnn]; exact small_le (rd2 s) 8
  have hraw : E.raw s = ⟨(rdHops nn (rd3 s)).1, (lm : Int), ((rd4 s).text 65536).1⟩ := by rw [hnn, hlm]; rfl
  have hr4 : rd4 s = (rdHops nn (rd3 s)).2 := by rw [hnn]; rfl
  have h5 : ((rd4 s).text 65536).2 = rd5 s := rfl
  have hre := fun (W : World) (hv : Value) (h : Rd W 1 hv (E.raw s).hops.length (is (E.raw s).hops)) => raw_in s hs h
  have hnum := fun W => Ref01.Number_any ⟨s, 0⟩ W
  simp only [hk1, hk2] at hnum
  have hsm1 := fun W => Ref01.Small_any (rd1 s) 8 (by omega) W
  simp only [← hlm, hl2] at hsm1
  have hsm2 := fun W => Ref01.Small_any (rd2 s) 8 (by omega) W
  simp only [hn2, hn3] at hsm2
  obtain ⟨r1, e1⟩ : ∃ r, r = rd1 s := ⟨_, rfl⟩
  obtain ⟨r2, e2⟩ : ∃ r, r = rd2 s := ⟨_, rfl⟩
  obtain ⟨r3, e3⟩ : ∃ r, r = rd3 s := ⟨_, rfl⟩
  rw [← e1] at hnum hsm1
  rw [← e2] at hsm1 hsm2
  rw [← e3] at hsm2 hraw hr4
  have Hgo := Lib.hid hgo
  have Hraw := Lib.hid hraw
  have Hr4 := Lib.hid hr4
  have H5 := Lib.hid h5
  have Hre := Lib.hid hre
  have Hkd := Lib.hid hkd
  have Hnum := Lib.hid hnum
  have Hsm1 := Lib.hid hsm1
  have Hsm2 := Lib.hid hsm2
  clear hgo hraw hr4 h5 hre hnum hsm1 hsm2 hlm hnn hk1 hk2 hl2 hn2 hn3 hkd e1 e2 e3
  go_enter Try.func41, Try.ntmps41
  go_upto_region 3 with (go_at_call 107; refine (Hnum.out _).mono ?_; rintro e w1 ⟨rfl, hb1⟩; have hz1 := Lib.hid (blk_below (blk_alloc (heap_alloc_new w (.cells #[.slice none 0 0, .int .i64 0, .string ⟨#[]⟩] 57)) (.cells #[.slice none 0 0, .int .i64 0, .string ⟨#[]⟩] 57)) hb1); have hv1 := Lib.hid (blk_below (alloc_at w (.cells #[.slice none 0 0, .int .i64 0, .string ⟨#[]⟩] 57) (.cells #[.slice none 0 0, .int .i64 0, .string ⟨#[]⟩] 57)) hb1); have hB1 := below_go hb1 (below_two w _ _); clear hb1)
  have R2 : RS 57 w (w1.alloc (XO r1)) w1.heap.size (XO r1) (w.heap.size + 1) (.slice none 0 0) [] 0 ⟨#[]⟩ :=
    ⟨blk_alloc hz1.out _, heap_alloc_new _ _, blk_alloc hv1.out _, own_nil _ _ _ _, (by intro e; cases e), (by intro e; cases e), (by have := blk_lt hv1.out; omega), (by have := blk_lt hv1.out; omega), (by omega), hB1.alloc hB1.size _⟩
  clear hz1 hv1 hB1
  obtain ⟨G, hG⟩ : ∃ g, g = w.heap.size + 1 := ⟨_, rfl⟩
  rw [← hG] at R2
  simp only [← hG]
  clear hG
  obtain ⟨x0, x1, x2, x3⟩ := cells2 R2.rd
  unfold XO at x0 x1 x2 x3
  have HR2 := Lib.hid R2
  clear R2
  go_upto_region 4 with (go_at_call 108; refine (Hsm1.out _).mono ?_; rintro e w2 ⟨rfl, hb2⟩; have R3 := HR2.out.below hb2; clear x0 x1 x2 x3 hb2; obtain ⟨x0, x1, x2, x3⟩ := cells2 R3.rd; have R4 := R3.put2 (r' := r2); have HR4 := Lib.hid R4; obtain ⟨c0, c1, c2⟩ := R4.cells; have f1 := blk_frozen R4.ev 1; have R5 := R4.set1 (lm : Int); have HR5 := Lib.hid R5; obtain ⟨y0, y1, y2, y3⟩ := cells2 R5.rd; clear R3 R4 R5)
  go_upto_region 6 with (go_at_call 108; refine (Hsm2.out _).mono ?_; rintro e w3 ⟨rfl, hb3⟩; have R6 := HR5.out.below hb3; clear x0 x1 x2 x3 c0 c1 c2 f1 hb3 y0 y1 y2 y3; obtain ⟨x0, x1, x2, x3⟩ := cells2 R6.rd; have R7 := R6.put2 (r' := r3); have HR7 := Lib.hid R7; clear R6 R7)
  clear x0 x1 x2 x3 HR5 HR4 HR2
  generalize ((w3.setCell ⟨w1.heap.size, 0, none⟩ (.string (str r3.b))).setCell ⟨w1.heap.size, 1, none⟩ (.int .i64 (r3.bad : Int))) = w4 at HR7 ⊢
  generalize w1.heap.size = g at HR7 ⊢
  go_wp2_with fail
  go_loopw [8] (fun c wr => ∃ (k : Nat) (hv : Value), k ≤ nn ∧ c = .int .i64 (k : Int) ∧ RS 57 w wr g (XO (rdHops k r3).2) G hv (rdHops k r3).1 (lm : Int) ⟨#[]⟩) (fun c _ => nn - (intOf c).toNat)
  case atStart => exact ⟨0, _, Nat.zero_le _, rfl, HR7.out⟩
  case round =>
    clear HR7
    obtain ⟨k, hv, hk, rfl, hR⟩ := hrel
    have hkl := rdHops_length k r3
    obtain ⟨r, hr⟩ : ∃ r, r = (rdHops k r3).2 := ⟨_, rfl⟩
    obtain ⟨hp, hhp⟩ : ∃ h, h = (rdHops k r3).1 := ⟨_, rfl⟩
    rw [← hr, ← hhp] at hR
    rw [← hhp] at hkl
    obtain ⟨A, c, rfl, hAc⟩ := hR.slice
    have hslk : (Value.slice A hp.length c) = .slice A k c := by rw [hkl]
    rw [hslk] at hR
    rw [hkl] at hAc
    have HR := Lib.hid hR
    obtain ⟨x0, x1, x2, x3⟩ := cells2 hR.rd
    have Hr := Lib.hid hr
    have Hhp := Lib.hid hhp
    have Hkl := Lib.hid hkl
    clear hR hr hhp hkl hslk
    by_cases hkn : k < nn
    · obtain ⟨x, hx⟩ : ∃ x, x = (r.small 15).1 := ⟨_, rfl⟩
      obtain ⟨r', hr'⟩ : ∃ r', r' = (r.small 15).2 := ⟨_, rfl⟩
      have hsm : ∀ W, Calls Try.prog 108 #[.agg #[.string (str r.b), .int .i64 (r.bad : Int)], .int .i64 15] W fun e w' => e = .returned (.tuple #[.agg #[.string (str r'.b), .int .i64 (r'.bad : Int)], .int .i64 (x : Int)]) ∧ Below W.heap.size W w' := by
        intro W; rw [hx, hr']; exact Ref01.Small_any r 15 (by omega) W
      have hnx : rdHops (k + 1) r3 = (hp ++ [(x : Int)], r') := by rw [rdHops, ← Hr.out, ← Hhp.out, ← hx, ← hr']
      have Hsm := Lib.hid hsm
      have Hnx := Lib.hid hnx
      clear hx hr' hsm hnx
      go_upto_region 11 with (go_at_call 108; refine (Hsm.out _).mono ?_; rintro e w5 ⟨rfl, hb5⟩; have R5 := (HR.out.below hb5).below (below_one _ (.cells #[.string (str r'.b), .int .i64 (r'.bad : Int)] 149)); clear x0 x1 x2 x3 hb5; obtain ⟨x0, x1, x2, x3⟩ := cells2 R5.rd; have R6 := R5.put2 (r' := r'); have HR6 := Lib.hid R6; clear R5 R6)
      clear x0 x1 x2 x3
      generalize (((w5.alloc (.cells #[.string (str r'.b), .int .i64 (r'.bad : Int)] 149)).setCell ⟨g, 0, none⟩ (.string (str r'.b))).setCell ⟨g, 1, none⟩ (.int .i64 (r'.bad : Int))) = w6 at HR6 ⊢
      obtain ⟨c0, c1, c2⟩ := HR6.out.cells
      go_wp2_with (at_builtin; go_must (refine app1 elI64 rfl (.tmp 42) (.tmp 44) rfl (w.heap.size + 1) (.slice A k c) k (is hp) [.int .i64 (x : Int)] rfl rfl rfl (by intro u hu; simp at hu; subst hu; rfl) (by have h := HR6.out.own; rw [Hkl.out] at h; exact h) (Below.refl _ w6) (Nat.succ_le_of_lt (blk_lt HR6.out.z)) (by omega) ?_); intro v1 w7 ho7 hB7 hg7 hat7; obtain ⟨A7, c7, rfl, -, -, -⟩ := (Rd.of_own ho7).slice_; have R8 := HR6.out.app (hops' := hp ++ [(x : Int)]) (by rw [List.length_append, Hkl.out, is_append]; exact ho7) hg7 hat7; have HR8 := Lib.hid R8; have hev7 := blk_grown HR6.out.ev hg7 (fun e => HR6.out.nG e.symm); obtain ⟨d0, -, -⟩ := env_cells hev7; have e0 := blk_frozen hev7 0; clear ho7 hB7 hg7 hat7 R8 hev7 c0 c1 c2)
      exact ⟨⟨k + 1, .slice A7 (k + 1) c7, by omega, by go_num, by rw [Hnx.out]; exact HR8.out⟩, by simp only [intOf]; omega⟩
    · obtain rfl : k = nn := by omega
      obtain ⟨inn, hin⟩ : ∃ x, x = ((rd4 s).text 65536).1 := ⟨_, rfl⟩
      have hr4 : r = rd4 s := by rw [Hr.out, Hr4.out]
      obtain ⟨r5, hr5⟩ : ∃ r, r = rd5 s := ⟨_, rfl⟩
      have htx : ∀ W, Calls Try.prog 109 #[.agg #[.string (str r.b), .int .i64 (r.bad : Int)], .int .i64 65536] W fun e w' => e = .returned (.tuple #[.agg #[.string (str r5.b), .int .i64 (r5.bad : Int)], .string (str inn)]) ∧ Below W.heap.size W w' := by
        intro W; rw [hr4, hin, hr5, ← H5.out]; exact Ref01.Text_any (rd4 s) 65536 (by omega) W
      have hrw : E.raw s = ⟨hp, (lm : Int), inn⟩ := by rw [Hraw.out, ← Hhp.out, hin]
      have hen := fun W => Ref01.End_any r5 W
      obtain ⟨fi, hfi⟩ : ∃ f, f = r5.fin := ⟨_, rfl⟩
      rw [← hfi] at hen
      have hgo := Hgo.out
      rw [← Hkd.out, ← hr5, ← hfi] at hgo
      have Hrw := Lib.hid hrw
      have Htx := Lib.hid htx
      have Hen := Lib.hid hen
      have Hgo2 := Lib.hid hgo
      clear hin hr4 htx hrw hr5 hfi hen hgo Hgo H5 Hr4 Hraw Hkd
      by_cases g2 : fi = 0
      rotate_left
      · have g2' : ((fi : Int) != 0) = true := by simp; omega
        have Hbad := Lib.hid (show E.good s = false by rw [Hgo2.out, decide_eq_false g2]; simp)
        clear g2
        go_wp2_with (first
          | (go_at_call 109; refine (Htx.out _).mono ?_; rintro e w6 ⟨rfl, hb6⟩; have R6 := HR.out.below hb6; clear x0 x1 x2 x3 hb6; obtain ⟨x0, x1, x2, x3⟩ := cells2 R6.rd; have R7 := R6.put2 (r' := r5); obtain ⟨c0, c1, c2⟩ := R7.cells; have f2 := blk_frozen R7.ev 2; have R8 := R7.set2 (str inn); obtain ⟨y0, y1, y2, y3⟩ := cells2 R8.rd; have HR8 := Lib.hid R8; clear R6 R7 R8)
          | (go_at_call 110; refine (Hen.out _).mono ?_; rintro e w7 ⟨rfl, hb7⟩; have R9 := HR8.out.below hb7; clear x0 x1 x2 x3 y0 y1 y2 y3 c0 c1 c2 f2 hb7; obtain ⟨c0, c1, c2⟩ := R9.cells; obtain ⟨z0, z1, z2⟩ := env_cells R9.z; have q0 := blk_frozen R9.z 0; have q1 := blk_frozen R9.z 1; have q2 := blk_frozen R9.z 2; have HR9 := Lib.hid R9; clear R9))
        refine bodyPost_ret (v := .tuple #[.agg [Value.slice none 0 0, .int .i64 0, .string ⟨#[]⟩].toArray, .bool false]) (Use.results_cell_tmp rfl _ _ w.heap.size [.slice none 0 0, .int .i64 0, .string ⟨#[]⟩] _ _ rfl rfl (range_all (set3 HR9.out.z)) Try.underlying57 rfl (by kernel_rfl)) rfl ?_
        rw [show E.read s = E.zero by rw [E.read, Hbad.out]; rfl, Hbad.out]
        exact ⟨.slice none 0 0, rfl, Rd.nil _ _, below_set (below_set (below_set HR9.out.b (Nat.le_refl _) _ _) (Nat.le_refl _) _ _) (Nat.le_refl _) _ _⟩
      have g2' : ((fi : Int) != 0) = false := by simp; omega
      by_cases g1 : kd = 3
      rotate_left
      · have g1' : ((kd : Int) != 3) = true := by simp; omega
        have Hbad := Lib.hid (show E.good s = false by rw [Hgo2.out, decide_eq_false g1]; rfl)
        clear g1 g2
        go_wp2_with (first
          | (go_at_call 109; refine (Htx.out _).mono ?_; rintro e w6 ⟨rfl, hb6⟩; have R6 := HR.out.below hb6; clear x0 x1 x2 x3 hb6; obtain ⟨x0, x1, x2, x3⟩ := cells2 R6.rd; have R7 := R6.put2 (r' := r5); obtain ⟨c0, c1, c2⟩ := R7.cells; have f2 := blk_frozen R7.ev 2; have R8 := R7.set2 (str inn); obtain ⟨y0, y1, y2, y3⟩ := cells2 R8.rd; have HR8 := Lib.hid R8; clear R6 R7 R8)
          | (go_at_call 110; refine (Hen.out _).mono ?_; rintro e w7 ⟨rfl, hb7⟩; have R9 := HR8.out.below hb7; clear x0 x1 x2 x3 y0 y1 y2 y3 c0 c1 c2 f2 hb7; obtain ⟨c0, c1, c2⟩ := R9.cells; obtain ⟨z0, z1, z2⟩ := env_cells R9.z; have q0 := blk_frozen R9.z 0; have q1 := blk_frozen R9.z 1; have q2 := blk_frozen R9.z 2; have HR9 := Lib.hid R9; clear R9))
        refine bodyPost_ret (v := .tuple #[.agg [Value.slice none 0 0, .int .i64 0, .string ⟨#[]⟩].toArray, .bool false]) (Use.results_cell_tmp rfl _ _ w.heap.size [.slice none 0 0, .int .i64 0, .string ⟨#[]⟩] _ _ rfl rfl (range_all (set3 HR9.out.z)) Try.underlying57 rfl (by kernel_rfl)) rfl ?_
        rw [show E.read s = E.zero by rw [E.read, Hbad.out]; rfl, Hbad.out]
        exact ⟨.slice none 0 0, rfl, Rd.nil _ _, below_set (below_set (below_set HR9.out.b (Nat.le_refl _) _ _) (Nat.le_refl _) _ _) (Nat.le_refl _) _ _⟩
      have g1' : ((kd : Int) != 3) = false := by simp; omega
      have hri : ∀ W gg, RS 57 w W g gg G (.slice A k c) hp (lm : Int) (str inn) → Calls Try.prog 38 #[.agg #[.slice A k c, .int .i64 (lm : Int), .string (str inn)]] W fun e w' => e = .returned (.bool (E.raw s).right) ∧ Below W.heap.size W w' := by
        intro W gg hR
        have h1 := Rd.of_own hR.own
        have h2 := Hre.out W (.slice A k c) (by rw [Hrw.out]; exact h1)
        have h3 := rright_any (E.raw s) (.slice A k c) W h2
        rw [show (E.raw s).limit = (lm : Int) by rw [Hrw.out], show (E.raw s).inner = inn by rw [Hrw.out]] at h3
        exact h3
      generalize hrt : (E.raw s).right = rt at hri Hgo2
      have Hri := Lib.hid hri
      have Hrt := Lib.hid hrt
      clear hri hrt
      cases rt with
      | false =>
        have Hbad := Lib.hid (show E.good s = false by rw [Hgo2.out]; simp)
        clear g1 g2
        go_wp2_with (first
          | (go_at_call 109; refine (Htx.out _).mono ?_; rintro e w6 ⟨rfl, hb6⟩; have R6 := HR.out.below hb6; clear x0 x1 x2 x3 hb6; obtain ⟨x0, x1, x2, x3⟩ := cells2 R6.rd; have R7 := R6.put2 (r' := r5); obtain ⟨c0, c1, c2⟩ := R7.cells; have f2 := blk_frozen R7.ev 2; have R8 := R7.set2 (str inn); obtain ⟨y0, y1, y2, y3⟩ := cells2 R8.rd; have HR8 := Lib.hid R8; clear R6 R7 R8)
          | (go_at_call 110; refine (Hen.out _).mono ?_; rintro e w7 ⟨rfl, hb7⟩; have R9 := HR8.out.below hb7; clear x0 x1 x2 x3 y0 y1 y2 y3 c0 c1 c2 f2 hb7; obtain ⟨c0, c1, c2⟩ := R9.cells; obtain ⟨z0, z1, z2⟩ := env_cells R9.z; have q0 := blk_frozen R9.z 0; have q1 := blk_frozen R9.z 1; have q2 := blk_frozen R9.z 2; have HR9 := Lib.hid R9; clear R9)
          | (go_at_call 38; refine (Hri.out _ _ HR9.out).mono ?_; rintro e w8 ⟨rfl, hb8⟩; have Ra := HR9.out.below hb8; clear hb8 z0 z1 z2 q0 q1 q2 c0 c1 c2; obtain ⟨c0, c1, c2⟩ := Ra.cells; obtain ⟨z0, z1, z2⟩ := env_cells Ra.z; have q0 := blk_frozen Ra.z 0; have q1 := blk_frozen Ra.z 1; have q2 := blk_frozen Ra.z 2; have HRa := Lib.hid Ra; clear Ra))
        refine bodyPost_ret (v := .tuple #[.agg [Value.slice none 0 0, .int .i64 0, .string ⟨#[]⟩].toArray, .bool false]) (Use.results_cell_tmp rfl _ _ w.heap.size [.slice none 0 0, .int .i64 0, .string ⟨#[]⟩] _ _ rfl rfl (range_all (set3 HRa.out.z)) Try.underlying57 rfl (by kernel_rfl)) rfl ?_
        rw [show E.read s = E.zero by rw [E.read, Hbad.out]; rfl, Hbad.out]
        exact ⟨.slice none 0 0, rfl, Rd.nil _ _, below_set (below_set (below_set HRa.out.b (Nat.le_refl _) _ _) (Nat.le_refl _) _ _) (Nat.le_refl _) _ _⟩
      | true =>
        have Hok := Lib.hid (show E.good s = true by rw [Hgo2.out, decide_eq_true g1, decide_eq_true g2]; rfl)
        clear g1 g2
        go_wp2_with (first
          | (go_at_call 109; refine (Htx.out _).mono ?_; rintro e w6 ⟨rfl, hb6⟩; have R6 := HR.out.below hb6; clear x0 x1 x2 x3 hb6; obtain ⟨x0, x1, x2, x3⟩ := cells2 R6.rd; have R7 := R6.put2 (r' := r5); obtain ⟨c0, c1, c2⟩ := R7.cells; have f2 := blk_frozen R7.ev 2; have R8 := R7.set2 (str inn); obtain ⟨y0, y1, y2, y3⟩ := cells2 R8.rd; have HR8 := Lib.hid R8; clear R6 R7 R8)
          | (go_at_call 110; refine (Hen.out _).mono ?_; rintro e w7 ⟨rfl, hb7⟩; have R9 := HR8.out.below hb7; clear x0 x1 x2 x3 y0 y1 y2 y3 c0 c1 c2 f2 hb7; obtain ⟨c0, c1, c2⟩ := R9.cells; obtain ⟨z0, z1, z2⟩ := env_cells R9.z; have q0 := blk_frozen R9.z 0; have q1 := blk_frozen R9.z 1; have q2 := blk_frozen R9.z 2; have HR9 := Lib.hid R9; clear R9)
          | (go_at_call 38; refine (Hri.out _ _ HR9.out).mono ?_; rintro e w8 ⟨rfl, hb8⟩; have Ra := HR9.out.below hb8; clear hb8 z0 z1 z2 q0 q1 q2 c0 c1 c2; obtain ⟨c0, c1, c2⟩ := Ra.cells; obtain ⟨z0, z1, z2⟩ := env_cells Ra.z; have q0 := blk_frozen Ra.z 0; have q1 := blk_frozen Ra.z 1; have q2 := blk_frozen Ra.z 2; have HRa := Lib.hid Ra; clear Ra))
        refine bodyPost_ret (v := .tuple #[.agg [Value.slice A k c, .int .i64 (lm : Int), .string (str inn)].toArray, .bool true]) (Use.results_cell_tmp rfl _ _ w.heap.size [.slice A k c, .int .i64 (lm : Int), .string (str inn)] _ _ rfl rfl (range_all (set3 HRa.out.z)) Try.underlying57 rfl (by kernel_rfl)) rfl ?_
        rw [show E.read s = E.raw s by rw [E.read, Hok.out]; rfl, Hok.out, Hrw.out]
        have hlt : w.heap.size < w.heap.size + 1 := by omega
        exact ⟨_, rfl, Rd.of_own (own_set (own_set (own_set HRa.out.own hlt _ _) hlt _ _) hlt _ _), below_set (below_set (below_set HRa.out.b (Nat.le_refl _) _ _) (Nat.le_refl _) _ _) (Nat.le_refl _) _ _⟩
end Go.Proofs.Ytcjabfdjngekfaa.Rel
