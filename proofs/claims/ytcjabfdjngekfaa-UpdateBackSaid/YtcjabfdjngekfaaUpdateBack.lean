/- The law UpdateBack, walked. -/
import Derived.Test.YtcjabfdjngekfaaUpdW5
set_option linter.unusedVariables false
set_option linter.unusedSimpArgs false
namespace Go.Proofs.Ytcjabfdjngekfaa.Upd
open Go.RowKit Go.Proofs.Ytcjabfdjngekfaa.Wd Go.Proofs.Ytcjabfdjngekfaa.Use Go.Proofs.Ytcjabfdjngekfaa.Lay Go.Proofs.Ytcjabfdjngekfaa.Ids

theorem Rd_take {w : World} {A : Option Addr} {m c : Nat} {l : List UInt8} (h : Rd w 1 (.slice A m c) m (bs l)) (n : Nat) (hn : n ≤ m) : Rd w 1 (.slice A n c) n (bs (l.take n)) := by
  obtain ⟨hl, A', c', hA, h1, h2, h3⟩ := h
  injection hA with hA1 hA2 hA3
  subst hA1 hA3
  rw [bs_length, Nat.mul_one] at hl
  refine ⟨by rw [bs_length, List.length_take]; omega, _, _, rfl, by omega, h2, fun h0 => ?_⟩
  obtain ⟨b, off, rfl, hc⟩ := h3 (by omega)
  refine ⟨b, off, rfl, fun i hi => ?_⟩
  rw [hc i (by omega)]
  have e : bs (l.take n) = (bs l).take n := by simp [bs, List.map_take]
  rw [e, List.getElem?_take, if_pos (by omega)]
theorem read_zero {b : List UInt8} (h : U.good b = false) : U.read b = U.zero := by rw [U.read, h]; rfl
theorem err_bad {b : List UInt8} (h : U.good b = false) : errR b = 11 := by rw [errR, h]; rfl
theorem read_ok {b : List UInt8} (h : U.good b = true) : U.read b = U.raw b := by rw [U.read, h]; rfl
theorem err_ok {b : List UInt8} (h : U.good b = true) : errR b = 0 := by rw [errR, h]; rfl
theorem put_len_le {u : U} {pv : Value} {w : World} (hu : UIn w u pv) (hr : u.right = true) : u.put.length ≤ 1000 := by
  have := u.pb_le pv hu
  rw [U.pb, hr] at this; exact this
set_option maxRecDepth 100000 in
set_option maxHeartbeats 32000000 in
theorem UpdateBack_any (u : U) (pv : Value) (v : Value) (b : List UInt8) (w : World) (hu : UIn w u pv) (hv : Rd w 1 v b.length (bs b)) : Calls Try.prog 11 #[.agg #[.int .i64 u.au, .int .u64 (u.ct : Int), pv, .int .i64 u.kd, .string (str u.ky), .string (str u.vl)], v] w fun r w' => r = .returned (.bool true) ∧ Below w.heap.size w w' := by
  obtain ⟨A, c, rfl, hc1, hc2, -⟩ := hu.ps.slice_
  obtain ⟨Av, cv, rfl, hv1, hv2, -⟩ := hv.slice_
  have hfa := fun W (h : Below w.heap.size w W) => fair_any u _ W (hu.below h)
  have hri := fun W (h : Below w.heap.size w W) => Right_any u _ W (hu.below h)
  have hpu : u.right = true → ∀ W, Below w.heap.size w W → Calls Try.prog 62 #[.agg #[.int .i64 u.au, .int .u64 (u.ct : Int), .slice A u.ps.length c, .int .i64 u.kd, .string (str u.ky), .string (str u.vl)]] W fun r w' => ∃ b, r = .returned (.tuple #[b, .int .i64 0]) ∧ Rd w' 1 b u.put.length (bs u.put) ∧ Below W.heap.size W w' := by
    intro hr W h
    have h1 := Put_any u _ W (hu.below h)
    rw [show u.pe = 0 by rw [U.pe, hr]; rfl, show u.pb = u.put by rw [U.pb, hr]; rfl] at h1
    exact h1
  have hrx : u.right = true → ∀ W, Calls Try.prog 63 #[.string (str u.put)] W fun e w' => ∃ pv, e = .returned (.tuple #[.agg #[.int .i64 u.au, .int .u64 (u.ct : Int), pv, .int .i64 u.kd, .string (str u.ky), .string (str u.vl)], .int .i64 0]) ∧ UIn w' u pv ∧ Below W.heap.size W w' := by
    intro hr W
    obtain ⟨g1, g2⟩ := good_put hr hu.ct hu.w32
    have h1 := Read_any u.put W (by have := put_len_le hu hr; omega)
    rw [read_ok g1, err_ok g1, g2] at h1
    exact h1
  have hzr : ∀ l : List UInt8, l.length ≤ 100000 → U.good l = false → ∀ W, Calls Try.prog 63 #[.string (str l)] W fun e w' => ∃ A' c', e = .returned (.tuple #[.agg #[.int .i64 0, .int .u64 0, .slice A' 0 c', .int .i64 0, .string ⟨#[]⟩, .string ⟨#[]⟩], .int .i64 11]) ∧ Below W.heap.size W w' := by
    intro l hl hg W
    refine (Read_any l W hl).mono ?_
    rintro e w' ⟨pv, rfl, hz, h⟩
    rw [read_zero hg] at hz
    rw [read_zero hg, err_bad hg]
    obtain ⟨A', c', rfl, -⟩ := hz.ps.slice_
    exact ⟨A', c', rfl, h⟩
  have hrc : u.right = true → ∀ W, Calls Try.prog 63 #[.string (str (u.put.take (u.put.length - 1)))] W fun e w' => ∃ A' c', e = .returned (.tuple #[.agg #[.int .i64 0, .int .u64 0, .slice A' 0 c', .int .i64 0, .string ⟨#[]⟩, .string ⟨#[]⟩], .int .i64 11]) ∧ Below W.heap.size W w' := by
    intro hr W
    rw [← List.dropLast_eq_take]
    exact hzr _ (by have := put_len_le hu hr; rw [List.length_dropLast]; omega) (good_cut hr hu.ct hu.w32) W
  have hrm : u.right = true → ∀ W, Calls Try.prog 63 #[.string (str (u.put ++ [0]))] W fun e w' => ∃ A' c', e = .returned (.tuple #[.agg #[.int .i64 0, .int .u64 0, .slice A' 0 c', .int .i64 0, .string ⟨#[]⟩, .string ⟨#[]⟩], .int .i64 11]) ∧ Below W.heap.size W w' := by
    intro hr W
    exact hzr _ (by have := put_len_le hu hr; rw [List.length_append, List.length_singleton]; omega) (good_more hr hu.ct hu.w32 0) W
  have hsa : ∀ W pv', UIn W u pv' → Below w.heap.size w W → Calls Try.prog 64 #[.agg #[.int .i64 u.au, .int .u64 (u.ct : Int), pv', .int .i64 u.kd, .string (str u.ky), .string (str u.vl)], .agg #[.int .i64 u.au, .int .u64 (u.ct : Int), .slice A u.ps.length c, .int .i64 u.kd, .string (str u.ky), .string (str u.vl)]] W fun r w' => r = .returned (.bool true) ∧ Below W.heap.size W w' := by
    intro W pv' h hb
    have h1 := Same_any u u pv' _ W h (hu.below hb)
    rw [U.same_refl] at h1
    exact h1
  have hid := fun W pv' (h : UIn W u pv') => Id_any u pv' W h
  have hid0 := fun W (h : Below w.heap.size w W) => Id_any u _ W (hu.below h)
  have hil := u.id_len
  have hneq := fun W => Sha.neqSum W u.id u.id hil hil
  rw [beq_self_eq_true] at hneq
  have hun : ∀ W pv', UIn W u pv' → ∃ A' c', pv' = .slice A' u.ps.length c' := fun W pv' h => by obtain ⟨A', c', e, -⟩ := h.ps.slice_; exact ⟨A', c', e⟩
  have hub : ∀ W W1 pv', UIn W u pv' → Below W.heap.size W W1 → UIn W1 u pv' := fun W W1 pv' h hb => h.below hb
  have hxl : u.right = true → 1 ≤ u.put.length ∧ u.put.length ≤ 1000 := fun hr => ⟨by have := put_ne u; have := List.length_pos_iff.2 this; omega, put_len_le hu hr⟩
  obtain ⟨UI, hUI⟩ : ∃ UI : World → Value → Prop, UI = fun W pv' => UIn W u pv' := ⟨_, rfl⟩
  have hrx' : u.right = true → ∀ W, Calls Try.prog 63 #[.string (str u.put)] W fun e w' => ∃ pv, e = .returned (.tuple #[.agg #[.int .i64 u.au, .int .u64 (u.ct : Int), pv, .int .i64 u.kd, .string (str u.ky), .string (str u.vl)], .int .i64 0]) ∧ UI w' pv ∧ Below W.heap.size W w' := by rw [hUI]; exact hrx
  have hsa' : ∀ W pv', UI W pv' → Below w.heap.size w W → Calls Try.prog 64 #[.agg #[.int .i64 u.au, .int .u64 (u.ct : Int), pv', .int .i64 u.kd, .string (str u.ky), .string (str u.vl)], .agg #[.int .i64 u.au, .int .u64 (u.ct : Int), .slice A u.ps.length c, .int .i64 u.kd, .string (str u.ky), .string (str u.vl)]] W fun r w' => r = .returned (.bool true) ∧ Below W.heap.size W w' := by rw [hUI]; exact hsa
  have hid' : ∀ W pv', UI W pv' → Calls Try.prog 65 #[.agg #[.int .i64 u.au, .int .u64 (u.ct : Int), pv', .int .i64 u.kd, .string (str u.ky), .string (str u.vl)]] W fun r w' => r = .returned (.agg (bs u.id).toArray) ∧ Below W.heap.size W w' := by rw [hUI]; exact hid
  have hun' : ∀ W pv', UI W pv' → ∃ A' c', pv' = .slice A' u.ps.length c' := by rw [hUI]; exact hun
  have hub' : ∀ W W1 pv', UI W pv' → Below W.heap.size W W1 → UI W1 pv' := by rw [hUI]; exact hub
  have hz0 : b.length ≤ 100000 → U.good b = false → ∀ W, Calls Try.prog 63 #[.string (str b)] W fun e w' => ∃ A' c', e = .returned (.tuple #[.agg #[.int .i64 0, .int .u64 0, .slice A' 0 c', .int .i64 0, .string ⟨#[]⟩, .string ⟨#[]⟩], .int .i64 11]) ∧ Below W.heap.size W w' := fun hl hg W => hzr b hl hg W
  obtain ⟨z, hzz⟩ : ∃ z, z = U.raw b := ⟨_, rfl⟩
  obtain ⟨UZ, hUZ⟩ : ∃ UZ : World → Value → Prop, UZ = fun W pv' => UIn W z pv' := ⟨_, rfl⟩
  have hrb : b.length ≤ 100000 → U.good b = true → ∀ W, Calls Try.prog 63 #[.string (str b)] W fun e w' => ∃ A' c', e = .returned (.tuple #[.agg #[.int .i64 z.au, .int .u64 (z.ct : Int), .slice A' z.ps.length c', .int .i64 z.kd, .string (str z.ky), .string (str z.vl)], .int .i64 0]) ∧ UZ w' (.slice A' z.ps.length c') ∧ Below W.heap.size W w' := by
    intro hl hg W
    refine (Read_any b W hl).mono ?_
    rintro e w' ⟨pv, rfl, hz, h⟩
    rw [read_ok hg, ← hzz] at hz
    rw [read_ok hg, err_ok hg, ← hzz, hUZ]
    obtain ⟨A', c', rfl, -⟩ := hz.ps.slice_
    exact ⟨A', c', rfl, hz, h⟩
  have hpz : U.good b = true → ∀ W pv', UZ W pv' → Calls Try.prog 62 #[.agg #[.int .i64 z.au, .int .u64 (z.ct : Int), pv', .int .i64 z.kd, .string (str z.ky), .string (str z.vl)]] W fun r w' => ∃ x, r = .returned (.tuple #[x, .int .i64 0]) ∧ Rd w' 1 x b.length (bs b) ∧ Below W.heap.size W w' := by
    rw [hUZ]
    intro hg W pv' h
    obtain ⟨g1, g2, -, -⟩ := good_back hg
    rw [← hzz] at g1 g2
    have h1 := Put_any z pv' W h
    rw [show z.pe = 0 by rw [U.pe, g1]; rfl, show z.pb = b by rw [U.pb, g1, ← g2]; rfl] at h1
    exact h1
  have hrz : U.good b = true → ∀ W pv', UZ W pv' → Calls Try.prog 61 #[.agg #[.int .i64 z.au, .int .u64 (z.ct : Int), pv', .int .i64 z.kd, .string (str z.ky), .string (str z.vl)]] W fun r w' => r = .returned (.bool true) ∧ Below W.heap.size W w' := by
    rw [hUZ]
    intro hg W pv' h
    obtain ⟨g1, -⟩ := good_back hg
    rw [← hzz] at g1
    have h1 := Right_any z pv' W h
    rw [g1] at h1
    exact h1
  have huz : ∀ W W1 pv', UZ W pv' → Below W.heap.size W W1 → UZ W1 pv' := by rw [hUZ]; exact fun W W1 pv' h hb => h.below hb
  clear hUZ hzz
  generalize U.good b = gd at hz0 hrb hpz hrz
  obtain ⟨zau, zct, zps, zkd, zky, zvl⟩ := z
  simp only at hrb hpz hrz
  generalize zps.length = zn at hrb
  clear hrx hsa hid hun hub hUI hzr
  generalize u.id = I0 at *
  generalize fairB u = F at hfa
  generalize u.right = R at hri hpu hrc hrm hxl hrx'
  obtain ⟨X, hX⟩ : ∃ X, X = u.put := ⟨_, rfl⟩
  obtain ⟨nX, hnX⟩ : ∃ n, n = u.put.length := ⟨_, rfl⟩
  rw [← hnX] at hpu hrc hxl
  rw [← hX] at hpu hrx' hrc hrm
  have HXb := Lib.hid (fun h : R = true => (show X.length ≤ 1000 by rw [hX, ← hnX]; exact (hxl h).2))
  clear hX hnX
  obtain ⟨au, ct, ps, kd, ky, vl⟩ := u
  simp only at hfa hri hpu hrx' hsa' hid' hid0 hun' hc1 ⊢
  generalize ps.length = n at *
  obtain ⟨m, hm⟩ : ∃ m, m = b.length := ⟨_, rfl⟩
  rw [← hm] at hv hv1 hz0 hrb hpz ⊢
  have Hfa := Lib.hid hfa
  have Hri := Lib.hid hri
  have Hpu := Lib.hid hpu
  have Hrx := Lib.hid hrx'
  have Hrc := Lib.hid hrc
  have Hrm := Lib.hid hrm
  have Hsa := Lib.hid hsa'
  have Hid1 := Lib.hid hid'
  have Hid0 := Lib.hid hid0
  have Hun := Lib.hid hun'
  have Hub := Lib.hid hub'
  obtain ⟨IA, hIA⟩ : ∃ x, x = bs I0 := ⟨_, rfl⟩
  rw [← hIA] at Hid1 Hid0 hneq
  have Hne := Lib.hid hneq
  have Hxl := Lib.hid hxl
  have Hv := Lib.hid hv
  have Hm := Lib.hid hm
  unfold maxLen at hc2 hv2
  clear hfa hri hpu hrx' hrc hrm hsa' hid' hid0 hun' hub' hneq hxl hv hm hu hil hIA
  have Hone := Lib.hid one_any
  have Hz0 := Lib.hid hz0
  have Hrb := Lib.hid hrb
  have Hpz := Lib.hid hpz
  have Hrz := Lib.hid hrz
  have Huz := Lib.hid huz
  clear hz0 hrb hpz hrz huz
  go_enter Try.func11, Try.ntmps11
  by_cases hF : F = true ∧ m ≤ 1000
  rotate_left
  · cases F with
    | false =>
      go_wp2_with (go_at_call 60; refine (Hfa.out _ (below_one _ _)).mono ?_; rintro r w2 ⟨rfl, hb2⟩)
      go_ret
      exact ⟨rfl, below_go hb2 (below_one _ _)⟩
    | true =>
      have hd : decide (1000 < (m : Int)) = true := decide_eq_true (by simp at hF; omega)
      go_wp2_with (go_at_call 60; refine (Hfa.out _ (below_one _ _)).mono ?_; rintro r w2 ⟨rfl, hb2⟩)
      go_ret
      exact ⟨rfl, below_go hb2 (below_one _ _)⟩
  obtain ⟨rfl, hm1⟩ := hF
  have hd : decide (1000 < (m : Int)) = false := decide_eq_false (by omega)
  obtain ⟨wb, hwb⟩ : ∃ wb, wb = (w.alloc (.cells #[.int .i64 au, .int .u64 (ct : Int), .slice A n c, .int .i64 kd, .string (str ky), .string (str vl)] 97)) := ⟨_, rfl⟩
  have Hcel := Lib.hid (show ∀ W, Below wb.heap.size wb W → W.cell? ⟨w.heap.size, 0, none⟩ = some (.int .i64 au) ∧ W.cell? ⟨w.heap.size, 1, none⟩ = some (.int .u64 (ct : Int)) ∧ W.cell? ⟨w.heap.size, 2, none⟩ = some (.slice A n c) ∧ W.cell? ⟨w.heap.size, 3, none⟩ = some (.int .i64 kd) ∧ W.cell? ⟨w.heap.size, 4, none⟩ = some (.string (str ky)) ∧ W.cell? ⟨w.heap.size, 5, none⟩ = some (.string (str vl)) from by
    intro W h; rw [hwb] at h; exact ucells (blk_below (heap_alloc_new w _) h))
  have hbw : Below w.heap.size w wb := by rw [hwb]; exact below_one _ _
  have Hwb := Lib.hid hwb
  clear hwb
  cases R with
  | false =>
    go_upto_region 12 with (first
      | (go_at_call 60; refine (Hfa.out _ (below_one _ _)).mono ?_; rintro r w2 ⟨rfl, hb2⟩; rw [← Hwb.out] at hb2; obtain ⟨x0, x1, x2, x3, x4, x5⟩ := Hcel.out _ hb2)
      | (go_at_call 61; refine (Hri.out _ (below_go hb2 hbw)).mono ?_; rintro r w3 ⟨rfl, hb3⟩; have hb3' := below_go hb3 hb2; have hB := below_go hb3' hbw))
    have ks := conv_rd _ (Hv.out.below hB)
    cases gd with
    | false =>
      go_wp2_with (first
        | (go_at_call 63; refine (Hz0.out (by omega) (by trivial) _).mono ?_; rintro r w4 ⟨Az9, cz9, rfl, hb4⟩; have hB4 := below_go (below_one w4 (.cells #[.int .i64 0, .int .u64 0, .slice Az9 0 cz9, .int .i64 0, .string ⟨#[]⟩, .string ⟨#[]⟩] 97)) (below_go hb4 hB))
        | (go_at_call 66; refine (Hone.out _).mono ?_; rintro r w5 ⟨rfl, hb5⟩))
      go_ret
      exact ⟨rfl, below_go hb5 hB4⟩
    | true =>
      go_wp2_with (first
        | (go_at_call 63; refine (Hrb.out (by omega) (by trivial) _).mono ?_; rintro r w4 ⟨Az9, cz9, rfl, hz4, hb4⟩; have hb4' := below_go (below_one w4 (.cells #[.int .i64 zau, .int .u64 (zct : Int), .slice Az9 zn cz9, .int .i64 zkd, .string (str zky), .string (str zvl)] 97)) hb4; have Hk4 := Lib.hid (heap_alloc_new w4 (.cells #[.int .i64 zau, .int .u64 (zct : Int), .slice Az9 zn cz9, .int .i64 zkd, .string (str zky), .string (str zvl)] 97)); have hZ4 := Huz.out _ _ _ hz4 (below_one w4 (.cells #[.int .i64 zau, .int .u64 (zct : Int), .slice Az9 zn cz9, .int .i64 zkd, .string (str zky), .string (str zvl)] 97)); have HZ4 := Lib.hid hZ4; clear hz4 hZ4; obtain ⟨p0, p1, p2, p3, p4, p5⟩ := ucells Hk4.out)
        | (go_at_call 62; refine (Hpz.out (by trivial) _ _ HZ4.out).mono ?_; rintro r w6 ⟨x9, rfl, hr6, hb6⟩; obtain ⟨A9, c9, rfl, -, -, -⟩ := hr6.slice_; clear ks p0 p1 p2 p3 p4 p5; have ks := conv_rd _ hr6; have hB6 := below_go hb6 (below_go hb4' hB); have ks2 := conv_rd _ (Hv.out.below hB6); have HZ6 := Lib.hid (Huz.out _ _ _ HZ4.out hb6); obtain ⟨p0, p1, p2, p3, p4, p5⟩ := ucells (blk_below Hk4.out hb6))
        | (go_at_call 61; refine (Hrz.out (by trivial) _ _ HZ6.out).mono ?_; rintro r w7 ⟨rfl, hb7⟩; have hB7 := below_go hb7 hB6)
        | (go_at_call 66; refine (Hone.out _).mono ?_; rintro r w5 ⟨rfl, hb5⟩))
      go_ret
      exact ⟨rfl, below_go hb5 hB7⟩
  | true =>
    obtain ⟨hx1, hx2⟩ := Hxl.out (by trivial)
    have hxb : ¬ 9223372036854775807 < X.length + 1 := by have := HXb.out (by trivial); omega
    have hw1 : IntKind.i64.wrap ((nX : Int) - 1) = ((nX - 1 : Nat) : Int) := by rw [IntKind.wrap_i64]; omega
    have hz : ((nX : Int) == 0) = false := by rw [beq_eq_false_iff_ne]; omega
    go_upto_region 8 with (first
      | (go_at_call 60; refine (Hfa.out _ (below_one _ _)).mono ?_; rintro r w2 ⟨rfl, hb2⟩; rw [← Hwb.out] at hb2; obtain ⟨x0, x1, x2, x3, x4, x5⟩ := Hcel.out _ hb2)
      | (go_at_call 61; refine (Hri.out _ (below_go hb2 hbw)).mono ?_; rintro r w3 ⟨rfl, hb3⟩; have hb3' := below_go hb3 hb2; clear x0 x1 x2 x3 x4 x5; obtain ⟨x0, x1, x2, x3, x4, x5⟩ := Hcel.out _ hb3')
      | (go_at_call 62; refine (Hpu.out (by trivial) _ (below_go hb3' hbw)).mono ?_; rintro r w4 ⟨vx, rfl, hr4, hb4⟩; have hb4' := below_go hb4 hb3'; clear x0 x1 x2 x3 x4 x5; obtain ⟨Ax, cx, rfl, hx3, hx4, -⟩ := hr4.slice_; have ks := conv_rd _ hr4; have Hr4 := Lib.hid hr4; clear hr4)
      | (go_at_call 63; refine (Hrx.out (by trivial) _).mono ?_; rintro r w5 ⟨py, rfl, hu5, hb5⟩; obtain ⟨Ay, cy, rfl⟩ := Hun.out _ _ hu5; have hb5' := below_go hb5 hb4'))
    obtain ⟨wy, hwy⟩ : ∃ wy, wy = w5.alloc (.cells #[.int .i64 au, .int .u64 (ct : Int), .slice Ay n cy, .int .i64 kd, .string (str ky), .string (str vl)] 97) := ⟨_, rfl⟩
    have Hcy := Lib.hid (show ∀ W, Below wy.heap.size wy W → W.cell? ⟨w5.heap.size, 0, none⟩ = some (.int .i64 au) ∧ W.cell? ⟨w5.heap.size, 1, none⟩ = some (.int .u64 (ct : Int)) ∧ W.cell? ⟨w5.heap.size, 2, none⟩ = some (.slice Ay n cy) ∧ W.cell? ⟨w5.heap.size, 3, none⟩ = some (.int .i64 kd) ∧ W.cell? ⟨w5.heap.size, 4, none⟩ = some (.string (str ky)) ∧ W.cell? ⟨w5.heap.size, 5, none⟩ = some (.string (str vl)) from by
      intro W h; rw [hwy] at h; exact ucells (blk_below (heap_alloc_new w5 _) h))
    have hb5y : Below w5.heap.size w5 wy := by rw [hwy]; exact below_one _ _
    have hby : Below wb.heap.size wb wy := below_go hb5y hb5'
    have Huy := Lib.hid (Hub.out _ _ _ hu5 hb5y)
    have Hr5 := Lib.hid ((Hr4.out.below hb5).below hb5y)
    rw [← hwy]
    clear ks hwy hb5 hb5' hb4 hb4' hb3 hb3' hb2 hu5 Hr4 hb5y
    have i1 : nX - 1 ≤ cx := by omega
    have i2 : ((nX - 1 : Nat) : Int) ≤ (cx : Int) := by omega
    have i0 : (0 : Int) ≤ ((nX - 1 : Nat) : Int) := by omega
    have ks := conv_rd _ Hr5.out
    have ks2 := conv_rd _ (Rd_take Hr5.out (nX - 1) (by omega))
    go_upto_region 9 with (first
      | (go_at_call 63; refine (Hrc.out (by trivial) _).mono ?_; rintro r w6 ⟨Az, cz, rfl, hb6⟩))
    have hb6y := below_go (below_one w6 (.cells #[.int .i64 0, .int .u64 0, .slice Az 0 cz, .int .i64 0, .string ⟨#[]⟩, .string ⟨#[]⟩] 97)) hb6
    clear ks ks2
    have ks := conv_rd _ (Hr5.out.below hb6y)
    go_upto_region 10 with (first
      | (go_at_call 63; refine (Hrm.out (by trivial) _).mono ?_; rintro r w7 ⟨Az2, cz2, rfl, hb7⟩))
    have hb7y := below_go (below_go (below_one w7 (.cells #[.int .i64 0, .int .u64 0, .slice Az2 0 cz2, .int .i64 0, .string ⟨#[]⟩, .string ⟨#[]⟩] 97)) hb7) hb6y
    clear ks hb6 hb6y hb7
    obtain ⟨w8, hw8⟩ : ∃ w8, w8 = w7.alloc (.cells #[.int .i64 0, .int .u64 0, .slice Az2 0 cz2, .int .i64 0, .string ⟨#[]⟩, .string ⟨#[]⟩] 97) := ⟨_, rfl⟩
    rw [← hw8] at hb7y ⊢
    clear hw8
    have hb8 := below_go hb7y hby
    have hS8 := And.intro (Hcel.out _ hb8) (Hcy.out _ hb7y)
    (refine Ord.wp_region_ord [(false, 0), (false, 1), (false, 2), (false, 3), (false, 4), (true, 5), (false, 6), (false, 7), (false, 8), (false, 9), (false, 11), (true, 10), (true, 12), (false, 13), (false, 14), (false, 15), (false, 16), (false, 17), (false, 18), (false, 19), (false, 20), (false, 21), (false, 22)] (fun W => (W.cell? ⟨w.heap.size, 0, none⟩ = some (.int .i64 au) ∧ W.cell? ⟨w.heap.size, 1, none⟩ = some (.int .u64 (ct : Int)) ∧ W.cell? ⟨w.heap.size, 2, none⟩ = some (.slice A n c) ∧ W.cell? ⟨w.heap.size, 3, none⟩ = some (.int .i64 kd) ∧ W.cell? ⟨w.heap.size, 4, none⟩ = some (.string (str ky)) ∧ W.cell? ⟨w.heap.size, 5, none⟩ = some (.string (str vl))) ∧ (W.cell? ⟨w5.heap.size, 0, none⟩ = some (.int .i64 au) ∧ W.cell? ⟨w5.heap.size, 1, none⟩ = some (.int .u64 (ct : Int)) ∧ W.cell? ⟨w5.heap.size, 2, none⟩ = some (.slice Ay n cy) ∧ W.cell? ⟨w5.heap.size, 3, none⟩ = some (.int .i64 kd) ∧ W.cell? ⟨w5.heap.size, 4, none⟩ = some (.string (str ky)) ∧ W.cell? ⟨w5.heap.size, 5, none⟩ = some (.string (str vl)))) (by kernel_rfl) (by kernel_rfl) (by kernel_rfl) (by kernel_rfl) (by exact hS8) ?_; simp only [Ord.ordOps, List.filterMap_cons, List.filterMap_nil, List.getElem?_toArray, List.getElem?_cons_succ, List.getElem?_cons_zero, Option.map_some]; repeat (first | (refine Ord.wpOrd_skip ?_ ?_; (focus (go_simp; (try (intro h; cases h)); done)); simp only [Act.put, List.setIfInBounds_toArray, List.set_cons_zero, List.set_cons_succ]) | (refine Ord.wpOrd_take (v := ?_) ?_ ?_ ?_; rotate_left; (focus (go_simp; done)); (focus (intro w' hSw; (try dsimp only at hSw); go_simp; (try with_reducible rfl); done)); simp only [Act.put, List.setIfInBounds_toArray, List.set_cons_zero, List.set_cons_succ])))
    (refine Ord.wpOrd_call ?_ (fun K hK => ?_); (focus (go_simp; done)); go_simp)
    go_at_call 64
    refine (Hsa.out w8.drew (.slice Ay n cy) (Hub.out _ _ _ Huy.out hb7y.drew) (below_go hb8.drew hbw)).mono ?_
    rintro r w9 ⟨rfl, hb9⟩
    have hb9y := below_go hb9 hb7y.drew
    have hb9b := below_go hb9y hby
    (refine hK _ _ (by exact And.intro (Hcel.out _ hb9b) (Hcy.out _ hb9y)) ?_; clear hK K; (try simp only [Act.put, List.setIfInBounds_toArray, List.set_cons_zero, List.set_cons_succ]); repeat (first | (refine Ord.wpOrd_skip ?_ ?_; (focus (go_simp; (try (intro h; cases h)); done)); simp only [Act.put, List.setIfInBounds_toArray, List.set_cons_zero, List.set_cons_succ]) | (refine Ord.wpOrd_take (v := ?_) ?_ ?_ ?_; rotate_left; (focus (go_simp; done)); (focus (intro w' hSw; (try dsimp only at hSw); go_simp; (try with_reducible rfl); done)); simp only [Act.put, List.setIfInBounds_toArray, List.set_cons_zero, List.set_cons_succ])))
    (refine Ord.wpOrd_call ?_ (fun K hK => ?_); (focus (go_simp; done)); go_simp)
    go_at_call 65
    refine (Hid1.out w9 (.slice Ay n cy) (Hub.out _ _ _ Huy.out hb9y)).mono ?_
    rintro r w10 ⟨rfl, hb10⟩
    have hb10y := below_go hb10 hb9y
    have hb10b := below_go hb10y hby
    (refine hK _ _ (by exact And.intro (Hcel.out _ hb10b) (Hcy.out _ hb10y)) ?_; clear hK K; (try simp only [Act.put, List.setIfInBounds_toArray, List.set_cons_zero, List.set_cons_succ]); repeat (first | (refine Ord.wpOrd_skip ?_ ?_; (focus (go_simp; (try (intro h; cases h)); done)); simp only [Act.put, List.setIfInBounds_toArray, List.set_cons_zero, List.set_cons_succ]) | (refine Ord.wpOrd_take (v := ?_) ?_ ?_ ?_; rotate_left; (focus (go_simp; done)); (focus (intro w' hSw; (try dsimp only at hSw); go_simp; (try with_reducible rfl); done)); simp only [Act.put, List.setIfInBounds_toArray, List.set_cons_zero, List.set_cons_succ])))
    (refine Ord.wpOrd_call ?_ (fun K hK => ?_); (focus (go_simp; done)); go_simp)
    go_at_call 65
    refine (Hid0.out w10 (below_go hb10b hbw)).mono ?_
    rintro r w11 ⟨rfl, hb11⟩
    have hb11y := below_go hb11 hb10y
    have hb11b := below_go hb11y hby
    (refine hK _ _ (by exact And.intro (Hcel.out _ hb11b) (Hcy.out _ hb11y)) ?_; clear hK K; (try simp only [Act.put, List.setIfInBounds_toArray, List.set_cons_zero, List.set_cons_succ]); repeat (first | (refine Ord.wpOrd_skip ?_ ?_; (focus (go_simp; (try (intro h; cases h)); done)); simp only [Act.put, List.setIfInBounds_toArray, List.set_cons_zero, List.set_cons_succ]) | (refine Ord.wpOrd_take (v := ?_) ?_ ?_ ?_; rotate_left; (focus (go_simp; done)); (focus (intro w' hSw; (try dsimp only at hSw); go_simp; (try with_reducible rfl); done)); simp only [Act.put, List.setIfInBounds_toArray, List.set_cons_zero, List.set_cons_succ])))
    refine Ord.wpOrd_bin ?_ .neq 44 _ _ _ rfl (.agg IA.toArray) (.agg IA.toArray) (.bool !true) rfl rfl (fun w' => run_eqGuard_agg w' _ _ _ _ _ _ (by kernel_rfl)) Hne.out ?_
    focus (go_simp; done)
    ((try simp only [Act.put, List.setIfInBounds_toArray, List.set_cons_zero, List.set_cons_succ]); repeat (first | (refine Ord.wpOrd_skip ?_ ?_; (focus (go_simp; (try (intro h; cases h)); done)); simp only [Act.put, List.setIfInBounds_toArray, List.set_cons_zero, List.set_cons_succ]) | (refine Ord.wpOrd_take (v := ?_) ?_ ?_ ?_; rotate_left; (focus (go_simp; done)); (focus (intro w' hSw; (try dsimp only at hSw); go_simp; (try with_reducible rfl); done)); simp only [Act.put, List.setIfInBounds_toArray, List.set_cons_zero, List.set_cons_succ])))
    refine Ord.wpOrd_nil ?_
    have hB := below_go hb11b hbw
    clear hS8 hb7y hb8 hb9 hb9y hb9b hb10 hb10y hb10b hb11 hb11y hb11b hxb
    generalize w11 = w3 at hB ⊢
    go_upto_region 12 with fail
    have ks := conv_rd _ (Hv.out.below hB)
    cases gd with
    | false =>
      go_wp2_with (first
        | (go_at_call 63; refine (Hz0.out (by omega) (by trivial) _).mono ?_; rintro r w4 ⟨Az9, cz9, rfl, hb4⟩; have hB4 := below_go (below_one w4 (.cells #[.int .i64 0, .int .u64 0, .slice Az9 0 cz9, .int .i64 0, .string ⟨#[]⟩, .string ⟨#[]⟩] 97)) (below_go hb4 hB))
        | (go_at_call 66; refine (Hone.out _).mono ?_; rintro r w5 ⟨rfl, hb5⟩))
      go_ret
      exact ⟨rfl, below_go hb5 hB4⟩
    | true =>
      go_wp2_with (first
        | (go_at_call 63; refine (Hrb.out (by omega) (by trivial) _).mono ?_; rintro r w4 ⟨Az9, cz9, rfl, hz4, hb4⟩; have hb4' := below_go (below_one w4 (.cells #[.int .i64 zau, .int .u64 (zct : Int), .slice Az9 zn cz9, .int .i64 zkd, .string (str zky), .string (str zvl)] 97)) hb4; have Hk4 := Lib.hid (heap_alloc_new w4 (.cells #[.int .i64 zau, .int .u64 (zct : Int), .slice Az9 zn cz9, .int .i64 zkd, .string (str zky), .string (str zvl)] 97)); have hZ4 := Huz.out _ _ _ hz4 (below_one w4 (.cells #[.int .i64 zau, .int .u64 (zct : Int), .slice Az9 zn cz9, .int .i64 zkd, .string (str zky), .string (str zvl)] 97)); have HZ4 := Lib.hid hZ4; clear hz4 hZ4; obtain ⟨p0, p1, p2, p3, p4, p5⟩ := ucells Hk4.out)
        | (go_at_call 62; refine (Hpz.out (by trivial) _ _ HZ4.out).mono ?_; rintro r w6 ⟨x9, rfl, hr6, hb6⟩; obtain ⟨A9, c9, rfl, -, -, -⟩ := hr6.slice_; clear ks p0 p1 p2 p3 p4 p5; have ks := conv_rd _ hr6; have hB6 := below_go hb6 (below_go hb4' hB); have ks2 := conv_rd _ (Hv.out.below hB6); have HZ6 := Lib.hid (Huz.out _ _ _ HZ4.out hb6); obtain ⟨p0, p1, p2, p3, p4, p5⟩ := ucells (blk_below Hk4.out hb6))
        | (go_at_call 61; refine (Hrz.out (by trivial) _ _ HZ6.out).mono ?_; rintro r w7 ⟨rfl, hb7⟩; have hB7 := below_go hb7 hB6)
        | (go_at_call 66; refine (Hone.out _).mono ?_; rintro r w5 ⟨rfl, hb5⟩))
      go_ret
      exact ⟨rfl, below_go hb5 hB7⟩
end Go.Proofs.Ytcjabfdjngekfaa.Upd
