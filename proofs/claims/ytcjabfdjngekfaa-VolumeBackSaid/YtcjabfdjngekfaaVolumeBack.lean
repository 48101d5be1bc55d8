/- VolumeBack's walk. -/
import Derived.Test.YtcjabfdjngekfaaVolLaw
import Derived.Test.YtcjabfdjngekfaaVolumeSizes
set_option linter.unusedVariables false
set_option linter.unusedSimpArgs false
namespace Go.Proofs.Ytcjabfdjngekfaa.Vol
open Go.RowKit Go.Proofs.Ytcjabfdjngekfaa.Wd Go.Proofs.Ytcjabfdjngekfaa.EqF

set_option maxRecDepth 100000 in
set_option maxHeartbeats 4000000 in
theorem VolumeBack_any (v : V) (vp vb : Value) (b : List UInt8) (cut : Int) (w : World) (hv : VIn w v vp) (hb : Rd w 1 vb b.length (bs b)) (hcut : I64 cut) :
    Calls Try.prog 5 #[.agg (vcells v vp).toArray, vb, .int .i64 cut] w fun e w' => e = .returned (.bool true) ∧ Below w.heap.size w w' := by
  obtain ⟨A, c, rfl, hp1, hp2, -⟩ := hv.pc.slice_
  obtain ⟨Ab, cb, rfl, hb1, hb2, -⟩ := hb.slice_
  obtain ⟨W0, hW0⟩ : ∃ W, W = w.alloc (.cells (vcells v (.slice A v.pc.length c)).toArray 46) := ⟨_, rfl⟩
  have hg0 : W0.heap[w.heap.size]? = some (.cells (vcells v (.slice A v.pc.length c)).toArray 46 (0, 0)) := by rw [hW0]; exact heap_alloc_new _ _
  have hB0 : Below w.heap.size w W0 := by rw [hW0]; exact (Below.refl _ _).alloc (Nat.le_refl _) _
  obtain ⟨-, -, -, -, c36⟩ := vol_cells hv.bd hg0
  have hcel := fun W (hW : Below W0.heap.size W0 W) => vol_cells hv.bd (blk_below hg0 hW)
  have hv0 : VIn W0 v (.slice A v.pc.length c) := hv.below hB0
  have hb0 : Rd W0 1 (.slice Ab b.length cb) b.length (bs b) := hb.below hB0
  have hLl : (vcells v (.slice A v.pc.length c)).length = 37 := vcells_length _ _ hv.bd
  have hpu := fun W (hW : Below W0.heap.size W0 W) (hr : v.right = true) => put_ok v (.slice A v.pc.length c) W (hv0.below hW) hr
  have hrg := fun W (hW : Below W0.heap.size W0 W) => right_any v (.slice A v.pc.length c) W W (hv0.below hW)
  have hkin := fun W vp2 (hW : Below W0.heap.size W0 W) (h2 : VIn W v vp2) => kin_any v v vp2 (.slice A v.pc.length c) W h2 (hv0.below hW)
  have hcv0 := fun W (hW : Below W0.heap.size W0 W) => conv_rd v.pc (hv0.pc.below hW)
  obtain ⟨L, hL⟩ : ∃ L, L = vcells v (.slice A v.pc.length c) := ⟨_, rfl⟩
  have hi : (Try.prog.info? 46).map (·.size) = some L.length := by rw [hL, hLl]; exact infoVol
  rw [← hL] at hW0 hg0 hLl hpu hrg hkin ⊢
  have Hg0 := Lib.hid hg0
  have Hi := Lib.hid hi
  have Hpu := Lib.hid hpu
  have Hrg := Lib.hid hrg
  have HW0 := Lib.hid hW0
  have Hv0 := Lib.hid hv0
  have Hb0 := Lib.hid hb0
  have Hkin := Lib.hid hkin
  have Hcel := Lib.hid hcel
  have Hcv0 := Lib.hid hcv0
  obtain ⟨pl, hpl⟩ : ∃ n, n = v.pc.length := ⟨_, rfl⟩
  rw [← hpl] at c36 hp1 Hcv0 Hcel
  have Hpl := Lib.hid hpl
  clear hg0 hi hpu hrg hW0 hL hLl hpl hv hv0 hb hb0 hkin hcel hcv0
  by_cases h1 : pl ≤ 500
  rotate_left
  · have hd1 : decide ((500 : Int) < (pl : Int)) = true := decide_eq_true (by omega)
    go_enter Try.func5, Try.ntmps5
    go_upto_region 1 with fail
    rw [← HW0.out]
    go_wp2_with fail
    go_ret
    exact ⟨rfl, hB0⟩
  have hd1 : decide ((500 : Int) < (pl : Int)) = false := decide_eq_false (by omega)
  by_cases h2 : b.length ≤ 800
  rotate_left
  · have hd2 : decide ((800 : Int) < (b.length : Int)) = true := decide_eq_true (by omega)
    go_enter Try.func5, Try.ntmps5
    go_upto_region 1 with fail
    rw [← HW0.out]
    go_wp2_with fail
    go_ret
    exact ⟨rfl, hB0⟩
  have hd2 : decide ((800 : Int) < (b.length : Int)) = false := decide_eq_false (by omega)
  have hpn : v.put.length = 75 + pl := by rw [V.put_length v Hv0.out.bd, Hpl.out]
  obtain ⟨n, hn⟩ : ∃ n, n = 75 + pl := ⟨_, rfl⟩
  have hn1 : 75 ≤ n := by omega
  have hn2 : n ≤ 1000 := by omega
  have hsz : ∀ W, Calls Try.prog 29 #[.int .i64 (pl : Int)] W fun e w' => e = .returned (.int .i64 (n : Int)) ∧ w' = W := by
    intro W; rw [hn, show (((75 + pl : Nat)) : Int) = 75 + (pl : Int) by omega]; exact size_any (pl : Int) (by omega) (by omega) W
  have hre0 : v.right = true → ∀ W vb, Rd W 1 vb n (bs v.put) → Calls Try.prog 34 #[vb] W fun e w' => ∃ vp2, e = .returned (.tuple #[.agg (vcells v vp2).toArray, .int .i64 0]) ∧ Rd w' 1 vp2 pl (bs v.pc) ∧ Below W.heap.size W w' := by
    intro hr W vb h
    have := read_any vb v.put W (by rw [hpn, ← hn]; exact h) (by rw [hpn]; omega)
    rw [V.read_put v Hv0.out.bd hr] at this
    rw [Hpl.out]
    exact this
  have hrek : ∀ k, k ≤ n → ∀ W vb, Rd W 1 vb k (bs (v.put.take k)) → Calls Try.prog 34 #[vb] W fun e w' => ∃ vp2, e = .returned (.tuple #[.agg (vcells (V.read (v.put.take k)).1 vp2).toArray, .int .i64 ((V.read (v.put.take k)).2 : Int)]) ∧ Rd w' 1 vp2 (V.read (v.put.take k)).1.pc.length (bs (V.read (v.put.take k)).1.pc) ∧ Below W.heap.size W w' := by
    intro k hk W vb h
    have hl : (v.put.take k).length = k := by rw [List.length_take, hpn]; omega
    exact read_any vb (v.put.take k) W (by rw [hl]; exact h) (by rw [hl]; omega)
  have Hre := Lib.hid (fun W (hW : Below W0.heap.size W0 W) => read_any (.slice Ab b.length cb) b W (Hb0.out.below hW) (by omega))
  have Hrdin := Lib.hid (read_in b (by omega))
  have Hcv := Lib.hid (fun W (hW : Below W0.heap.size W0 W) => conv_rd b (Hb0.out.below hW))
  have Hsz := Lib.hid hsz
  have Hre0 := Lib.hid hre0
  have Hrek := Lib.hid hrek
  have Hpn := Lib.hid hpn
  have Hn := Lib.hid hn
  obtain ⟨cu, hcu⟩ : ∃ y, bits .and .i64 cut 65535 = y := ⟨_, rfl⟩
  have hcu2 := i64_and16 cut
  rw [hcu] at hcu2
  obtain ⟨cu1, cu2⟩ := hcu2
  have Hcu := Lib.hid hcu
  have Hb0' := Lib.hid h2
  clear h1 h2 hsz hre0 hrek hpn hn hcu
  go_enter Try.func5, Try.ntmps5
  go_upto_region 1 with fail
  rw [← HW0.out]
  generalize hrt : v.right = rt at *
  go_upto_if 27 with (first
    | (refine wpList_load_mid rfl _ _ rfl w.heap.size 0 rfl L _ (range_all Hg0.out) Try.underlying46 rfl Hi.out ?_)
    | (go_at_call 32; refine (Hrg.out _ (Below.refl _ _)).mono ?_; rintro e w2 ⟨rfl, hB2⟩))
  go_cut [7, 8, 9, 10, 11, 12] from 28 to 90 (fun s7 s8 s9 s10 s11 s12 wx => Below W0.heap.size W0 wx)
  case first =>
    cases rt with
    | false =>
      go_wp2_with fail
      go_meet
      exact hB2
    | true =>
      go_upto_region 5 with (first
        | (refine wpList_load_mid rfl _ _ rfl w.heap.size 0 rfl L _ (range_all (blk_below Hg0.out hB2)) Try.underlying46 rfl Hi.out ?_)
        | (go_at_call 33; refine (Hpu.out _ hB2 rfl).mono ?_; rintro e w3 ⟨v3, rfl, ho3, hb3⟩; have hr3 := Rd.of_own ho3; rw [Hpn.out, ← Hn.out] at hr3; obtain ⟨A3, c3, rfl, hc3, hc4, -⟩ := hr3.slice_; unfold maxLen at hc4; have Hr3 := Lib.hid hr3; have hB3 := below_go hb3 hB2; clear hr3 hb3 ho3 hB2))
      obtain ⟨-, -, -, -, c36'⟩ := Hcel.out _ hB3
      go_upto_region 8 with (first
        | (go_at_call 29; refine (Hsz.out _).mono ?_; rintro e w4 ⟨rfl, rfl⟩)
        | (go_at_call 34; refine (Hre0.out (by first | rfl | trivial) _ _ Hr3.out).mono ?_; rintro e w5 ⟨vp5, rfl, hr5, hb5⟩; have hB5 := below_go hb5 hB3; have Hr35 := Lib.hid (Hr3.out.below hb5); obtain ⟨A5, c5, hvp5, hc5, -, -⟩ := hr5.slice_; obtain ⟨L5, hL5⟩ : ∃ L5, L5 = vcells v vp5 := ⟨_, rfl⟩; have HL51 : Hid (∀ u ∈ L5, u.oneCell' = true) := (by show _; rw [hL5, hvp5]; exact vcells_one _ _ rfl); have HL5l : Hid (L5.length = 37) := (by show _; rw [hL5]; exact vcells_length _ _ Hv0.out.bd); have Hi5 : Hid ((Try.prog.info? 46).map (·.size) = some L5.length) := (by show _ = _; rw [HL5l.out]; exact infoVol); have HL5 := Lib.hid hL5; have Hr5 := Lib.hid hr5; have Hvp5 := Lib.hid hvp5; rw [← hL5]; clear hb5 hr5 hL5 hvp5 c36')
        | (refine Sha.wpList_store_all rfl 46 _ _ rfl w5.heap.size L5 zcells rfl rfl HL51.out (HL5l.out.trans (vcells_length _ _ rfl).symm) Hi5.out 46 (heap_alloc_new w5 _) ?_; intro w6 Hw6 hg6; have hb56 : Below w5.heap.size w5 w6 := ((Below.refl _ _).alloc (Nat.le_refl _) _).grown hg6 (by simp) (fun k hk => by injection hk with hk; omega); have hB6 := below_go hb56 hB5; have Hr36 := Lib.hid (Hr35.out.below hb56); have Hr6 := Lib.hid (Hr5.out.below hb56); clear hg6 hb56))
      have hv6 : VIn w6 v vp5 := by
        have h := Hv0.out
        refine ⟨h.bd, h.ix, h.dt, h.mr, h.lg, ?_⟩
        have h6 := Hr6.out
        rw [Hpl.out] at h6
        exact h6
      have Hv6 := Lib.hid hv6
      clear hv6
      have hki : ∀ W, Below w6.heap.size w6 W → Calls Try.prog 30 #[.agg L5.toArray, .agg L.toArray] W fun e w' => e = .returned (.bool true) ∧ Below W.heap.size W w' := by
        intro W hW
        have h := Hkin.out W vp5 (below_go hW hB6) (Hv6.out.below hW)
        rw [HL5.out, ← kin_self v]
        exact h
      have Hki := Lib.hid hki
      clear hki
      go_upto_region 10 with (first
        | (refine Ord.wpList_load_g rfl _ _ rfl w5.heap.size 0 rfl L5 _ (range_all Hw6.out) Try.underlying46 rfl Hi5.out ?_)
        | (refine Ord.wpList_load_g rfl _ _ rfl w.heap.size 0 rfl L _ (range_all (blk_below Hg0.out hB6)) Try.underlying46 rfl Hi.out ?_)
        | (go_at_call 30; refine (Hki.out _ (Below.refl _ _)).mono ?_; rintro e w7 ⟨rfl, hb7⟩; have hB7 := below_go hb7 hB6; have Hr37 := Lib.hid (Hr36.out.below hb7); have hw7 := blk_below Hw6.out hb7; rw [HL5.out] at hw7; obtain ⟨d32, -, -, -, d36⟩ := vol_cells Hv0.out.bd hw7; obtain ⟨e32, -, -, -, e36⟩ := Hcel.out _ hB7; have hvp5 := Hvp5.out; subst hvp5; have k5 := conv_rd v.pc (Hr6.out.below hb7); have k0 := Hcv0.out _ hB7; clear hw7 hb7))
      have hk1 : 0 ≤ cu % (n : Int) := Int.emod_nonneg _ (by omega)
      have hk2 : cu % (n : Int) < (n : Int) := Int.emod_lt_of_pos _ (by omega)
      obtain ⟨k, hk⟩ : ∃ k : Nat, cu % (n : Int) = (k : Int) := ⟨(cu % (n : Int)).toNat, by omega⟩
      have hk3 : k ≤ n := by omega
      have hk4 : cu.tmod (n : Int) = (k : Int) := by rw [Int.tmod_eq_emod_of_nonneg cu1]; exact hk
      have hk5 : IntKind.i64.wrap (k : Int) = (k : Int) := by rw [IntKind.wrap_i64]; omega
      have hk6 : ¬ (n : Int) = 0 := by omega
      have hk7 : ((n : Int) == 0) = false := by simpa using hk6
      have hk8 : (k : Int) ≤ (c3 : Int) := by omega
      have hcu := Hcu.out
      have hrk := Sha.Rd.take Hr37.out k hk3
      rw [Nat.mul_one, show (bs v.put).take k = bs (v.put.take k) by simp [bs, List.map_take]] at hrk
      have Hrk := Lib.hid hrk
      have hrk2 := fun W (hW : Below w7.heap.size w7 W) => Hrek.out k hk3 W _ (Hrk.out.below hW)
      obtain ⟨z, hz⟩ : ∃ z, z = (V.read (v.put.take k)).1 := ⟨_, rfl⟩
      obtain ⟨g, hg⟩ : ∃ g, g = ((V.read (v.put.take k)).2 : Int) := ⟨_, rfl⟩
      have hzi := read_in (v.put.take k) (by rw [List.length_take]; omega)
      rw [← hz, ← hg] at hrk2
      rw [← hz] at hzi
      have hzr : g = 0 → z.right = true := by
        intro h0
        have h1 : (V.read (v.put.take k)).2 = 0 := by omega
        exact (V.put_read (v.put.take k) z (by rw [hz, ← h1])).1
      have Hzr := Lib.hid hzr
      have Hrk2 := Lib.hid hrk2
      have Hzi := Lib.hid hzi
      clear hk hz hg hzi hzr hrk hrk2 hk1 hk2 d32 d36 e32 e36 k5 k0
      go_upto_region 11 with (first
        | (go_at_call 34; refine (Hrk2.out _ (Below.refl _ _)).mono ?_; rintro e w8 ⟨vp8, rfl, hr8, hb8⟩; have hB8 := below_go hb8 hB7; obtain ⟨A8, c8, hvp8, -, -, -⟩ := hr8.slice_; obtain ⟨L8, hL8⟩ : ∃ L8, L8 = vcells z vp8 := ⟨_, rfl⟩; have HL81 : Hid (∀ u ∈ L8, u.oneCell' = true) := (by show _; rw [hL8, hvp8]; exact vcells_one _ _ rfl); have HL8l : Hid (L8.length = 37) := (by show _; rw [hL8]; exact vcells_length _ _ Hzi.out.1); have Hi8 : Hid ((Try.prog.info? 46).map (·.size) = some L8.length) := (by show _ = _; rw [HL8l.out]; exact infoVol); have HL8 := Lib.hid hL8; have Hr8 := Lib.hid hr8; rw [← hL8]; clear hb8 hr8 hL8 hvp8)
        | (refine Sha.wpList_store_all rfl 46 _ _ rfl w8.heap.size L8 zcells rfl rfl HL81.out (HL8l.out.trans (vcells_length _ _ rfl).symm) Hi8.out 46 (heap_alloc_new w8 _) ?_; intro w9 Hw9 hg9; have hb89 : Below w8.heap.size w8 w9 := ((Below.refl _ _).alloc (Nat.le_refl _) _).grown hg9 (by simp) (fun k hk => by injection hk with hk; omega); have hB9 := below_go hb89 hB8; have Hr9 := Lib.hid (Hr8.out.below hb89); clear hg9 hb89))
      by_cases hg0 : g = 0
      · have hgd : (g == 0) = true := by simpa using hg0
        have hri : ∀ W, Below w9.heap.size w9 W → Calls Try.prog 32 #[.agg L8.toArray] W fun e w' => e = .returned (.bool true) ∧ Below W.heap.size W w' := by
          intro W hW
          obtain ⟨i1, i2, i3, i4, i5, -⟩ := Hzi.out
          rw [HL8.out, ← Hzr.out hg0]
          exact right_any z vp8 W W ⟨i1, i2, i3, i4, i5, Hr9.out.below hW⟩
        have Hri := Lib.hid hri
        clear hri hg0
        go_wp2_with (first
          | (refine Ord.wpList_load_g rfl _ _ rfl w8.heap.size 0 rfl L8 _ (range_all Hw9.out) Try.underlying46 rfl Hi8.out ?_)
          | (go_at_call 32; refine (Hri.out _ (Below.refl _ _)).mono ?_; rintro e wa ⟨rfl, hba⟩; have hBa := below_go hba hB9; clear hba))
        go_meet
        exact hBa
      · have hgd : (g == 0) = false := by simpa using hg0
        clear hg0
        go_wp2_with fail
        go_meet
        exact hB9
  case rest =>
    clear hB2
    have hBc := hcut
    clear hcut Hpu Hrg Hkin Hcel Hcv0 Hre0 Hrek Hsz Hpn Hn Hcu c36
    obtain ⟨y, hy⟩ : ∃ y, y = (V.read b).1 := ⟨_, rfl⟩
    obtain ⟨f, hf⟩ : ∃ f, f = ((V.read b).2 : Int) := ⟨_, rfl⟩
    rw [← hy] at Hre Hrdin
    rw [← hf] at Hre
    have hyr : f = 0 → y.right = true ∧ y.put = b := by
      intro h0
      have h1 : (V.read b).2 = 0 := by omega
      have h2 := V.put_read b y (by rw [hy, ← h1])
      exact ⟨h2.1, h2.2.1⟩
    have Hyr := Lib.hid hyr
    clear hyr hy hf
    go_upto_region 14 with (first
      | (go_at_call 34; refine (Hre.out _ hBc).mono ?_; rintro e w5 ⟨vp5, rfl, hr5, hb5⟩; have hB5 := below_go hb5 hBc; obtain ⟨A5, c5, hvp5, -, -, -⟩ := hr5.slice_; obtain ⟨L5, hL5⟩ : ∃ L5, L5 = vcells y vp5 := ⟨_, rfl⟩; have HL51 : Hid (∀ u ∈ L5, u.oneCell' = true) := (by show _; rw [hL5, hvp5]; exact vcells_one _ _ rfl); have HL5l : Hid (L5.length = 37) := (by show _; rw [hL5]; exact vcells_length _ _ Hrdin.out.1); have Hi5 : Hid ((Try.prog.info? 46).map (·.size) = some L5.length) := (by show _ = _; rw [HL5l.out]; exact infoVol); have HL5 := Lib.hid hL5; have Hr5 := Lib.hid hr5; rw [← hL5]; clear hb5 hr5 hL5 hvp5)
      | (refine Sha.wpList_store_all rfl 46 _ _ rfl w5.heap.size L5 zcells rfl rfl HL51.out (HL5l.out.trans (vcells_length _ _ rfl).symm) Hi5.out 46 (heap_alloc_new w5 _) ?_; intro w6 Hw6 hg6; have hb56 : Below w5.heap.size w5 w6 := ((Below.refl _ _).alloc (Nat.le_refl _) _).grown hg6 (by simp) (fun k hk => by injection hk with hk; omega); have hB6 := below_go hb56 hB5; have Hr6 := Lib.hid (Hr5.out.below hb56); clear hg6 hb56))
    by_cases hf0 : f = 0
    · have hfd : (f == 0) = true := by simpa using hf0
      have hpu : ∀ W, Below w6.heap.size w6 W → Calls Try.prog 33 #[.agg L5.toArray] W fun e w' => ∃ v', e = .returned (.tuple #[v', .int .i64 0]) ∧ Rd w' 1 v' b.length (bs b) ∧ Below W.heap.size W w' := by
        intro W hW
        obtain ⟨i1, i2, i3, i4, i5, -⟩ := Hrdin.out
        obtain ⟨j1, j2⟩ := Hyr.out hf0
        rw [HL5.out]
        refine (put_ok y vp5 W ⟨i1, i2, i3, i4, i5, Hr6.out.below hW⟩ j1).mono fun e w' ⟨v', h1, h2, h3⟩ => ⟨v', h1, ?_, h3⟩
        rw [← j2]
        exact Rd.of_own h2
      have Hpu := Lib.hid hpu
      clear hpu hf0
      go_wp2_with (first
        | (refine wpList_load_mid rfl _ _ rfl w5.heap.size 0 rfl L5 _ (range_all Hw6.out) Try.underlying46 rfl Hi5.out ?_)
        | (go_at_call 33; refine (Hpu.out _ (Below.refl _ _)).mono ?_; rintro e w7 ⟨v7, rfl, hr7, hb7⟩; have hB7 := below_go hb7 hB6; have k7 := conv_rd b hr7; have k0 := Hcv.out _ hB7; clear hb7)
        | (go_at_call 31; refine (one21_any _).mono ?_; rintro e wa ⟨rfl, hba⟩; have hBa := below_go hba hB7; clear hba))
      go_ret
      exact ⟨rfl, below_go hBa hB0⟩
    · have hfd : (f == 0) = false := by simpa using hf0
      clear hf0
      go_wp2_with (go_at_call 31; refine (one21_any _).mono ?_; rintro e wa ⟨rfl, hba⟩; have hBa := below_go hba hB6; clear hba)
      go_ret
      exact ⟨rfl, below_go hBa hB0⟩
end Go.Proofs.Ytcjabfdjngekfaa.Vol
