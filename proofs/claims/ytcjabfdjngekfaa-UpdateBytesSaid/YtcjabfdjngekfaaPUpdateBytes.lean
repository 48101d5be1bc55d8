/- The law UpdateBytes, walked. -/
import Derived.Test.YtcjabfdjngekfaaPRef14B
set_option linter.unusedVariables false
set_option linter.unusedSimpArgs false
namespace Go.Proofs.Ytcjabfdjngekfaa.Upd
open Go.RowKit Go.Proofs.Ytcjabfdjngekfaa.Wd Go.Proofs.Ytcjabfdjngekfaa.Use Go.Proofs.Ytcjabfdjngekfaa.Lay Go.Proofs.Ytcjabfdjngekfaa.Ids

theorem read_ps_le (b : List UInt8) : (U.read b).ps.length ≤ 100000 := by
  unfold U.read
  split
  · rw [raw_ps]; exact read8_le _
  · simp [U.zero]
theorem errR_is (b : List UInt8) : errR b = if U.good b then 0 else 11 := rfl
theorem pe_is (u : U) : u.pe = if u.right then 0 else 2 := rfl
set_option maxRecDepth 100000 in
set_option maxHeartbeats 64000000 in
theorem UpdateBytes_any (u : U) (pv : Value) (o : U) (po : Value) (v : Value) (b : List UInt8) (w : World) (hu : UIn w u pv) (ho : UIn w o po) (hv : Rd w 1 v b.length (bs b)) : Calls Try.prog 12 #[.agg #[.int .i64 u.au, .int .u64 (u.ct : Int), pv, .int .i64 u.kd, .string (str u.ky), .string (str u.vl)], .agg #[.int .i64 o.au, .int .u64 (o.ct : Int), po, .int .i64 o.kd, .string (str o.ky), .string (str o.vl)], v] w fun r w' => r = .returned (.bool true) ∧ Below w.heap.size w w' := by
  obtain ⟨A, c, rfl, hc1, hc2, -⟩ := hu.ps.slice_
  obtain ⟨A', c', rfl, hd1, hd2, -⟩ := ho.ps.slice_
  obtain ⟨Av, cv, rfl, hv1, hv2, -⟩ := hv.slice_
  obtain ⟨UU, hUU⟩ : ∃ UU : World → Value → Prop, UU = fun W pv' => UIn W u pv' := ⟨_, rfl⟩
  obtain ⟨UO, hUO⟩ : ∃ UU : World → Value → Prop, UU = fun W pv' => UIn W o pv' := ⟨_, rfl⟩
  obtain ⟨UY, hUY⟩ : ∃ UU : World → Value → Prop, UU = fun W pv' => UIn W (U.read b) pv' := ⟨_, rfl⟩
  have hfu := fun W (h : Below w.heap.size w W) => fair_any u _ W (hu.below h)
  have hfo := fun W (h : Below w.heap.size w W) => fair_any o _ W (ho.below h)
  have hfn : fairB u = true → u.ps.length ≤ 100000 := fun h => by simp only [fairB, Bool.and_eq_true, decide_eq_true_eq] at h; omega
  have hfn' : fairB o = true → o.ps.length ≤ 100000 := fun h => by simp only [fairB, Bool.and_eq_true, decide_eq_true_eq] at h; omega
  have hou : u.ps.length ≤ 100000 → ∀ W, Below w.heap.size w W → Calls Try.prog 67 #[.agg #[.int .i64 u.au, .int .u64 (u.ct : Int), .slice A u.ps.length c, .int .i64 u.kd, .string (str u.ky), .string (str u.vl)]] W fun r w' => ∃ A1 c1, r = .returned (.agg #[.int .i64 u.au, .int .u64 (u.ct : Int), .slice A1 u.ps.length c1, .int .i64 u.kd, .string (str u.ky), .string (str u.vl)]) ∧ UU w' (.slice A1 u.ps.length c1) ∧ Below W.heap.size W w' := by
    intro hn W h
    refine (Own14_any u _ W (hu.below h) hn).mono ?_
    rintro r w' ⟨v', rfl, h1, h2⟩
    obtain ⟨A1, c1, rfl, -⟩ := h1.ps.slice_
    exact ⟨A1, c1, rfl, by rw [hUU]; exact h1, h2⟩
  have hoo : o.ps.length ≤ 100000 → ∀ W, Below w.heap.size w W → Calls Try.prog 67 #[.agg #[.int .i64 o.au, .int .u64 (o.ct : Int), .slice A' o.ps.length c', .int .i64 o.kd, .string (str o.ky), .string (str o.vl)]] W fun r w' => ∃ A1 c1, r = .returned (.agg #[.int .i64 o.au, .int .u64 (o.ct : Int), .slice A1 o.ps.length c1, .int .i64 o.kd, .string (str o.ky), .string (str o.vl)]) ∧ UO w' (.slice A1 o.ps.length c1) ∧ Below W.heap.size W w' := by
    intro hn W h
    refine (Own14_any o _ W (ho.below h) hn).mono ?_
    rintro r w' ⟨v', rfl, h1, h2⟩
    obtain ⟨A1, c1, rfl, -⟩ := h1.ps.slice_
    exact ⟨A1, c1, rfl, by rw [hUO]; exact h1, h2⟩
  have hoy : ∀ W v1, UY W v1 → Calls Try.prog 67 #[.agg #[.int .i64 (U.read b).au, .int .u64 ((U.read b).ct : Int), v1, .int .i64 (U.read b).kd, .string (str (U.read b).ky), .string (str (U.read b).vl)]] W fun r w' => ∃ A1 c1, r = .returned (.agg #[.int .i64 (U.read b).au, .int .u64 ((U.read b).ct : Int), .slice A1 (U.read b).ps.length c1, .int .i64 (U.read b).kd, .string (str (U.read b).ky), .string (str (U.read b).vl)]) ∧ UY w' (.slice A1 (U.read b).ps.length c1) ∧ Below W.heap.size W w' := by
    rw [hUY]
    intro W v1 h
    refine (Own14_any (U.read b) _ W h (read_ps_le b)).mono ?_
    rintro r w' ⟨v', rfl, h1, h2⟩
    obtain ⟨A1, c1, rfl, -⟩ := h1.ps.slice_
    exact ⟨A1, c1, rfl, h1, h2⟩
  have hpu : ∀ W, Below w.heap.size w W → Calls Try.prog 62 #[.agg #[.int .i64 u.au, .int .u64 (u.ct : Int), .slice A u.ps.length c, .int .i64 u.kd, .string (str u.ky), .string (str u.vl)]] W fun r w' => ∃ A1 c1, r = .returned (.tuple #[.slice A1 u.pb.length c1, .int .i64 (u.pe : Int)]) ∧ Rd w' 1 (.slice A1 u.pb.length c1) u.pb.length (bs u.pb) ∧ Below W.heap.size W w' := by
    intro W h
    refine (Put_any u _ W (hu.below h)).mono ?_
    rintro r w' ⟨b', rfl, h1, h2⟩
    obtain ⟨A1, c1, rfl, -⟩ := h1.slice_
    exact ⟨A1, c1, rfl, h1, h2⟩
  have hri := fun W (h : Below w.heap.size w W) => Right_any u _ W (hu.below h)
  have hrr : u.ps.length ≤ 100000 → ∀ W v1, UU W v1 → Calls Try.prog 68 #[.agg #[.int .i64 u.au, .int .u64 (u.ct : Int), v1, .int .i64 u.kd, .string (str u.ky), .string (str u.vl)]] W fun r w' => r = .returned (.bool u.right) ∧ Below W.heap.size W w' := by
    rw [hUU]; exact fun hn W v1 h => rRight_any u v1 W h hn
  have hrp : u.right = true → ∀ W v1, UU W v1 → Calls Try.prog 69 #[.agg #[.int .i64 u.au, .int .u64 (u.ct : Int), v1, .int .i64 u.kd, .string (str u.ky), .string (str u.vl)]] W fun r w' => r = .returned (.string (str u.pb)) ∧ Below W.heap.size W w' := by
    rw [hUU]; intro hr W v1 h
    rw [show u.pb = u.put by rw [U.pb, hr]; rfl]
    exact rPut14_any u v1 W h hr
  have hrb : b.length ≤ 100000 → ∀ W, Calls Try.prog 63 #[.string (str b)] W fun e w' => ∃ A1 c1, e = .returned (.tuple #[.agg #[.int .i64 (U.read b).au, .int .u64 ((U.read b).ct : Int), .slice A1 (U.read b).ps.length c1, .int .i64 (U.read b).kd, .string (str (U.read b).ky), .string (str (U.read b).vl)], .int .i64 (errR b : Int)]) ∧ UY w' (.slice A1 (U.read b).ps.length c1) ∧ Below W.heap.size W w' := by
    intro hl W
    refine (Read_any b W hl).mono ?_
    rintro r w' ⟨v', rfl, h1, h2⟩
    obtain ⟨A1, c1, rfl, -⟩ := h1.ps.slice_
    exact ⟨A1, c1, rfl, by rw [hUY]; exact h1, h2⟩
  have hrb2 : b.length ≤ 100000 → ∀ W, Calls Try.prog 70 #[.string (str b)] W fun e w' => ∃ A1 c1, e = .returned (.tuple #[.agg #[.int .i64 (U.read b).au, .int .u64 ((U.read b).ct : Int), .slice A1 (U.read b).ps.length c1, .int .i64 (U.read b).kd, .string (str (U.read b).ky), .string (str (U.read b).vl)], .bool (U.good b)]) ∧ UY w' (.slice A1 (U.read b).ps.length c1) ∧ Below W.heap.size W w' := by
    intro hl W
    refine (rRead14_any b W hl).mono ?_
    rintro r w' ⟨v', rfl, h1, h2⟩
    obtain ⟨A1, c1, rfl, -⟩ := h1.ps.slice_
    exact ⟨A1, c1, rfl, by rw [hUY]; exact h1, h2⟩
  obtain ⟨C, hC⟩ : ∃ C, C = Sha.ws (Sha.K0 ++ Sha.F0.list) := ⟨_, rfl⟩
  have hall := fun W => Sha.all_any W
  rw [← hC] at hall
  have hid := fun W (h : Below w.heap.size w W) => Id_any u _ W (hu.below h)
  have hrid : u.ps.length ≤ 100000 → ∀ W v1, UU W v1 → Calls Try.prog 71 #[.agg #[.int .i64 u.au, .int .u64 (u.ct : Int), v1, .int .i64 u.kd, .string (str u.ky), .string (str u.vl)], .agg C.toArray] W fun r w' => r = .returned (.agg (bs u.id).toArray) ∧ Below W.heap.size W w' := by
    rw [hUU]; exact fun hn W v1 h => rId14_any u v1 W h hn C hC
  have hil := u.id_len
  have heq := fun W => Ids.eqlA W u.id u.id hil hil
  rw [beq_self_eq_true] at heq
  have hsa := fun W (h : Below w.heap.size w W) => Same_any u o _ _ W (hu.below h) (ho.below h)
  have hrs : ∀ W v1 v2, UU W v1 → UO W v2 → Calls Try.prog 73 #[.agg #[.int .i64 u.au, .int .u64 (u.ct : Int), v1, .int .i64 u.kd, .string (str u.ky), .string (str u.vl)], .agg #[.int .i64 o.au, .int .u64 (o.ct : Int), v2, .int .i64 o.kd, .string (str o.ky), .string (str o.vl)]] W fun r w' => r = .returned (.bool (u.same o)) ∧ Below W.heap.size W w' := by
    rw [hUU, hUO]; exact fun W v1 v2 h1 h2 => rSame14_any u o v1 v2 W h1 h2
  have hry : ∀ W v1 v2, UY W v1 → UY W v2 → Calls Try.prog 73 #[.agg #[.int .i64 (U.read b).au, .int .u64 ((U.read b).ct : Int), v1, .int .i64 (U.read b).kd, .string (str (U.read b).ky), .string (str (U.read b).vl)], .agg #[.int .i64 (U.read b).au, .int .u64 ((U.read b).ct : Int), v2, .int .i64 (U.read b).kd, .string (str (U.read b).ky), .string (str (U.read b).vl)]] W fun r w' => r = .returned (.bool true) ∧ Below W.heap.size W w' := by
    rw [hUY]; intro W v1 v2 h1 h2
    have h := rSame14_any (U.read b) (U.read b) v1 v2 W h1 h2
    rw [U.same_refl] at h; exact h
  have hbu : ∀ W W1 v1, UU W v1 → Below W.heap.size W W1 → UU W1 v1 := by rw [hUU]; exact fun W W1 v1 h hb => h.below hb
  have hbo : ∀ W W1 v1, UO W v1 → Below W.heap.size W W1 → UO W1 v1 := by rw [hUO]; exact fun W W1 v1 h hb => h.below hb
  have hby : ∀ W W1 v1, UY W v1 → Below W.heap.size W W1 → UY W1 v1 := by rw [hUY]; exact fun W W1 v1 h hb => h.below hb
  have her := errR_is b
  have hpe := pe_is u
  have hpb : u.right = false → u.pb.length = 0 := fun h => by rw [U.pb, h]; rfl
  clear hUU hUO hUY hC hu ho
  generalize u.id = I0 at *
  generalize fairB u = F1 at hfu hfn
  generalize fairB o = F2 at hfo hfn'
  generalize u.same o = q at hsa hrs
  generalize u.right = R at hri hrr hrp hpe hpb
  generalize u.pe = E at hpu hpe
  generalize errR b = ER at hrb her
  generalize U.good b = gd at hrb2 her
  generalize U.read b = yr at hoy hrb hrb2 hry
  obtain ⟨X, hX⟩ : ∃ X, X = u.pb := ⟨_, rfl⟩
  obtain ⟨nX, hnX⟩ : ∃ n, n = u.pb.length := ⟨_, rfl⟩
  rw [← hnX, ← hX] at hpu
  rw [← hX] at hrp
  rw [← hnX] at hpb
  clear hX hnX
  obtain ⟨au, ct, ps, kd, ky, vl⟩ := u
  obtain ⟨au', ct', ps', kd', ky', vl'⟩ := o
  obtain ⟨auy, cty, psy, kdy, kyy, vly⟩ := yr
  simp only at hfu hfo hfn hfn' hou hoo hoy hpu hri hrr hrp hrb hrb2 hid hrid hsa hrs hry hc1 hd1 ⊢
  generalize ps.length = n at *
  generalize ps'.length = n' at *
  generalize psy.length = ny at *
  obtain ⟨m, hm⟩ : ∃ m, m = b.length := ⟨_, rfl⟩
  rw [← hm] at hv hv1 hrb hrb2 ⊢
  obtain ⟨IA, hIA⟩ : ∃ x, x = bs I0 := ⟨_, rfl⟩
  rw [← hIA] at hid hrid heq
  have Hfu := Lib.hid hfu
  have Hfo := Lib.hid hfo
  have Hfn := Lib.hid hfn
  have Hfn' := Lib.hid hfn'
  have Hou := Lib.hid hou
  have Hoo := Lib.hid hoo
  have Hoy := Lib.hid hoy
  have Hpu := Lib.hid hpu
  have Hri := Lib.hid hri
  have Hrr := Lib.hid hrr
  have Hrp := Lib.hid hrp
  have Hrb := Lib.hid hrb
  have Hrb2 := Lib.hid hrb2
  have Hall := Lib.hid hall
  have Hid := Lib.hid hid
  have Hrid := Lib.hid hrid
  have Heq := Lib.hid heq
  have Hsa := Lib.hid hsa
  have Hrs := Lib.hid hrs
  have Hry := Lib.hid hry
  have Hbu := Lib.hid hbu
  have Hbo := Lib.hid hbo
  have Hby := Lib.hid hby
  have Her := Lib.hid her
  have Hpe := Lib.hid hpe
  have Hpb := Lib.hid hpb
  have Hv := Lib.hid hv
  have Hone := Lib.hid one_any
  unfold maxLen at hc2 hd2 hv2
  clear hfu hfo hfn hfn' hou hoo hoy hpu hri hrr hrp hrb hrb2 hall hid hrid heq hsa hrs hry hbu hbo hby her hpe hpb hv hm hil hIA
  obtain ⟨W0, hW0⟩ : ∃ W, W = (w.alloc (.cells #[.int .i64 au, .int .u64 (ct : Int), .slice A n c, .int .i64 kd, .string (str ky), .string (str vl)] 97)).alloc (.cells #[.int .i64 au', .int .u64 (ct' : Int), .slice A' n' c', .int .i64 kd', .string (str ky'), .string (str vl')] 97) := ⟨_, rfl⟩
  have Hcu := Lib.hid (show ∀ W, Below W0.heap.size W0 W → (W.cell? ⟨w.heap.size, 0, none⟩ = some (.int .i64 au) ∧ W.cell? ⟨w.heap.size, 1, none⟩ = some (.int .u64 (ct : Int)) ∧ W.cell? ⟨w.heap.size, 2, none⟩ = some (.slice A n c) ∧ W.cell? ⟨w.heap.size, 3, none⟩ = some (.int .i64 kd) ∧ W.cell? ⟨w.heap.size, 4, none⟩ = some (.string (str ky)) ∧ W.cell? ⟨w.heap.size, 5, none⟩ = some (.string (str vl))) ∧ (W.cell? ⟨w.heap.size + 1, 0, none⟩ = some (.int .i64 au') ∧ W.cell? ⟨w.heap.size + 1, 1, none⟩ = some (.int .u64 (ct' : Int)) ∧ W.cell? ⟨w.heap.size + 1, 2, none⟩ = some (.slice A' n' c') ∧ W.cell? ⟨w.heap.size + 1, 3, none⟩ = some (.int .i64 kd') ∧ W.cell? ⟨w.heap.size + 1, 4, none⟩ = some (.string (str ky')) ∧ W.cell? ⟨w.heap.size + 1, 5, none⟩ = some (.string (str vl'))) from by
    intro W h; rw [hW0] at h; exact ⟨ucells (blk_below (blk_alloc (heap_alloc_new w _) _) h), ucells (blk_below (alloc_at w _ _) h)⟩)
  have hb0 : Below w.heap.size w W0 := by rw [hW0]; exact below_two _ _ _
  have HW0 := Lib.hid hW0
  clear hW0
  go_enter Try.func12, Try.ntmps12
  go_upto_region 1 with fail
  rw [show (w.alloc (.cells #[.int .i64 au, .int .u64 (ct : Int), .slice A n c, .int .i64 kd, .string (str ky), .string (str vl)] 97)).alloc (.cells #[.int .i64 au', .int .u64 (ct' : Int), .slice A' n' c', .int .i64 kd', .string (str ky'), .string (str vl')] 97) = W0 from HW0.out.symm]
  obtain ⟨⟨x0, x1, x2, x3, x4, x5⟩, z0, z1, z2, z3, z4, z5⟩ := Hcu.out _ (Below.refl _ _)
  cases F1 with
  | false =>
    go_wp2_with (go_at_call 60; refine (Hfu.out _ hb0).mono ?_; rintro r w2 ⟨rfl, hb2⟩)
    go_ret
    exact ⟨rfl, below_go hb2 hb0⟩
  | true =>
  have hn40 := Hfn.out (by trivial)
  cases F2 with
  | false =>
    go_wp2_with (first
      | (go_at_call 60; refine (Hfo.out _ (below_go hb2 hb0)).mono ?_; rintro r w3 ⟨rfl, hb3⟩)
      | (go_at_call 60; refine (Hfu.out _ hb0).mono ?_; rintro r w2 ⟨rfl, hb2⟩; clear x0 x1 x2 x3 x4 x5 z0 z1 z2 z3 z4 z5; obtain ⟨⟨x0, x1, x2, x3, x4, x5⟩, z0, z1, z2, z3, z4, z5⟩ := Hcu.out _ hb2))
    go_ret
    exact ⟨rfl, below_go hb3 (below_go hb2 hb0)⟩
  | true =>
  have hn41 := Hfn'.out (by trivial)
  by_cases hm1 : m ≤ 1000
  rotate_left
  · have hd : decide (1000 < (m : Int)) = true := decide_eq_true (by omega)
    go_wp2_with (first
      | (go_at_call 60; refine (Hfo.out _ (below_go hb2 hb0)).mono ?_; rintro r w3 ⟨rfl, hb3⟩)
      | (go_at_call 60; refine (Hfu.out _ hb0).mono ?_; rintro r w2 ⟨rfl, hb2⟩; clear x0 x1 x2 x3 x4 x5 z0 z1 z2 z3 z4 z5; obtain ⟨⟨x0, x1, x2, x3, x4, x5⟩, z0, z1, z2, z3, z4, z5⟩ := Hcu.out _ hb2))
    go_ret
    exact ⟨rfl, below_go hb3 (below_go hb2 hb0)⟩
  have hd : decide (1000 < (m : Int)) = false := decide_eq_false (by omega)
  go_upto_region 3 with (first
    | (go_at_call 60; refine (Hfo.out _ (below_go hb2 hb0)).mono ?_; rintro r w3 ⟨rfl, hb3⟩; have hb3' := below_go hb3 hb2; clear x0 x1 x2 x3 x4 x5 z0 z1 z2 z3 z4 z5; obtain ⟨⟨x0, x1, x2, x3, x4, x5⟩, z0, z1, z2, z3, z4, z5⟩ := Hcu.out _ hb3')
    | (go_at_call 60; refine (Hfu.out _ hb0).mono ?_; rintro r w2 ⟨rfl, hb2⟩; clear x0 x1 x2 x3 x4 x5 z0 z1 z2 z3 z4 z5; obtain ⟨⟨x0, x1, x2, x3, x4, x5⟩, z0, z1, z2, z3, z4, z5⟩ := Hcu.out _ hb2))
  go_upto_region 4 with (go_at_call 67; refine (Hou.out hn40 _ (below_go hb3' hb0)).mono ?_; rintro r w4 ⟨Ar, cr, rfl, hu4, hb4⟩)
  obtain ⟨W1, hW1⟩ : ∃ W, W = w4.alloc (.cells #[.int .i64 au, .int .u64 (ct : Int), .slice Ar n cr, .int .i64 kd, .string (str ky), .string (str vl)] 105) := ⟨_, rfl⟩
  obtain ⟨gr, hgr⟩ : ∃ g, g = w4.heap.size := ⟨_, rfl⟩
  have Hcr := Lib.hid (show ∀ W, Below W1.heap.size W1 W → (W.cell? ⟨gr, 0, none⟩ = some (.int .i64 au) ∧ W.cell? ⟨gr, 1, none⟩ = some (.int .u64 (ct : Int)) ∧ W.cell? ⟨gr, 2, none⟩ = some (.slice Ar n cr) ∧ W.cell? ⟨gr, 3, none⟩ = some (.int .i64 kd) ∧ W.cell? ⟨gr, 4, none⟩ = some (.string (str ky)) ∧ W.cell? ⟨gr, 5, none⟩ = some (.string (str vl))) from by
    intro W h; rw [hW1] at h; rw [hgr]; exact ucells (blk_below (heap_alloc_new w4 _) h))
  have hb41 : Below w4.heap.size w4 W1 := by rw [hW1]; exact below_one _ _
  have Hur := Lib.hid (Hbu.out _ _ _ hu4 hb41)
  have hb01 : Below W0.heap.size W0 W1 := below_go hb41 (below_go hb4 hb3')
  rw [← hW1, ← hgr]
  clear hW1 hgr hb41 hu4 hb4 hb3 hb3' hb2 x0 x1 x2 x3 x4 x5 z0 z1 z2 z3 z4 z5
  obtain ⟨⟨x0, x1, x2, x3, x4, x5⟩, z0, z1, z2, z3, z4, z5⟩ := Hcu.out _ hb01
  go_upto_region 5 with (go_at_call 62; refine (Hpu.out _ (below_go hb01 hb0)).mono ?_; rintro r w5 ⟨Ax, cx, rfl, hr5, hb5⟩)
  have Hr5 := Lib.hid hr5
  have hk5 := fun W (h : Below w5.heap.size w5 W) => conv_rd X (hr5.below h)
  have Hk5 := Lib.hid hk5
  clear hr5 hk5 x0 x1 x2 x3 x4 x5 z0 z1 z2 z3 z4 z5
  have hb05 := below_go hb5 hb01
  cases R with
  | false =>
    have hE : E = 2 := Hpe.out
    have hnx : nX = 0 := Hpb.out (by trivial)
    subst hE hnx
    have hS5 := fun W (h : Below w5.heap.size w5 W) => And.intro (Hcu.out W (below_go h hb05)) (And.intro (Hcr.out W (below_go h hb5)) (Hk5.out W h))
    have HS5 := Lib.hid hS5
    clear hS5
    (refine Ord.wp_region_ord [(false, 0), (false, 2), (true, 1), (true, 3), (false, 4), (false, 5), (false, 6), (false, 7), (false, 8), (true, 9), (false, 10), (false, 11), (false, 12), (false, 13), (false, 14), (false, 15), (false, 16), (false, 17), (false, 18), (true, 19), (false, 20), (false, 21), (false, 22), (false, 23), (false, 24), (false, 25), (false, 26), (false, 27), (false, 28), (false, 29), (false, 30), (false, 31), (false, 32), (false, 33), (false, 34), (false, 35)] (fun W => ((W.cell? ⟨w.heap.size, 0, none⟩ = some (.int .i64 au) ∧ W.cell? ⟨w.heap.size, 1, none⟩ = some (.int .u64 (ct : Int)) ∧ W.cell? ⟨w.heap.size, 2, none⟩ = some (.slice A n c) ∧ W.cell? ⟨w.heap.size, 3, none⟩ = some (.int .i64 kd) ∧ W.cell? ⟨w.heap.size, 4, none⟩ = some (.string (str ky)) ∧ W.cell? ⟨w.heap.size, 5, none⟩ = some (.string (str vl))) ∧ (W.cell? ⟨w.heap.size + 1, 0, none⟩ = some (.int .i64 au') ∧ W.cell? ⟨w.heap.size + 1, 1, none⟩ = some (.int .u64 (ct' : Int)) ∧ W.cell? ⟨w.heap.size + 1, 2, none⟩ = some (.slice A' n' c') ∧ W.cell? ⟨w.heap.size + 1, 3, none⟩ = some (.int .i64 kd') ∧ W.cell? ⟨w.heap.size + 1, 4, none⟩ = some (.string (str ky')) ∧ W.cell? ⟨w.heap.size + 1, 5, none⟩ = some (.string (str vl')))) ∧ (W.cell? ⟨gr, 0, none⟩ = some (.int .i64 au) ∧ W.cell? ⟨gr, 1, none⟩ = some (.int .u64 (ct : Int)) ∧ W.cell? ⟨gr, 2, none⟩ = some (.slice Ar n cr) ∧ W.cell? ⟨gr, 3, none⟩ = some (.int .i64 kd) ∧ W.cell? ⟨gr, 4, none⟩ = some (.string (str ky)) ∧ W.cell? ⟨gr, 5, none⟩ = some (.string (str vl))) ∧ (convert 23 9 (.slice Ax 0 cx)).run Try.prog W = .ok (.string (str X)) W) (by kernel_rfl) (by kernel_rfl) (by kernel_rfl) (by kernel_rfl) (by exact HS5.out _ (Below.refl _ _).drew) ?_; simp only [Ord.ordOps, List.filterMap_cons, List.filterMap_nil, List.getElem?_toArray, List.getElem?_cons_succ, List.getElem?_cons_zero, Option.map_some]; repeat (first | (refine Ord.wpOrd_skip ?_ ?_; (focus (go_simp; (try (intro h; cases h)); done)); simp only [Act.put, List.setIfInBounds_toArray, List.set_cons_zero, List.set_cons_succ]) | (refine Ord.wpOrd_take (v := ?_) ?_ ?_ ?_; rotate_left; (focus (go_simp; done)); (focus (intro w' hSw; (try dsimp only at hSw); go_simp; (try with_reducible rfl); done)); simp only [Act.put, List.setIfInBounds_toArray, List.set_cons_zero, List.set_cons_succ])))
    (refine Ord.wpOrd_call ?_ (fun K hK => ?_); (focus (go_simp; done)); go_simp)
    go_at_call 61
    refine (Hri.out w5.drew (below_go hb05.drew hb0)).mono ?_
    rintro r w6 ⟨rfl, hb6⟩
    have hb6' := below_go hb6 (Below.refl w5.heap.size w5).drew
    (refine hK _ _ (by exact HS5.out _ hb6') ?_; clear hK K; (try simp only [Act.put, List.setIfInBounds_toArray, List.set_cons_zero, List.set_cons_succ]); repeat (first | (refine Ord.wpOrd_skip ?_ ?_; (focus (go_simp; (try (intro h; cases h)); done)); simp only [Act.put, List.setIfInBounds_toArray, List.set_cons_zero, List.set_cons_succ]) | (refine Ord.wpOrd_take (v := ?_) ?_ ?_ ?_; rotate_left; (focus (go_simp; done)); (focus (intro w' hSw; (try dsimp only at hSw); go_simp; (try with_reducible rfl); done)); simp only [Act.put, List.setIfInBounds_toArray, List.set_cons_zero, List.set_cons_succ])))
    (refine Ord.wpOrd_call ?_ (fun K hK => ?_); (focus (go_simp; done)); go_simp)
    go_at_call 68
    refine (Hrr.out hn40 w6 _ (Hbu.out _ _ _ Hur.out (below_go hb6' hb5))).mono ?_
    rintro r w7 ⟨rfl, hb7⟩
    have hb7' := below_go hb7 hb6'
    (refine hK _ _ (by exact HS5.out _ hb7') ?_; clear hK K; (try simp only [Act.put, List.setIfInBounds_toArray, List.set_cons_zero, List.set_cons_succ]); repeat (first | (refine Ord.wpOrd_skip ?_ ?_; (focus (go_simp; (try (intro h; cases h)); done)); simp only [Act.put, List.setIfInBounds_toArray, List.set_cons_zero, List.set_cons_succ]) | (refine Ord.wpOrd_take (v := ?_) ?_ ?_ ?_; rotate_left; (focus (go_simp; done)); (focus (intro w' hSw; (try dsimp only at hSw); go_simp; (try with_reducible rfl); done)); simp only [Act.put, List.setIfInBounds_toArray, List.set_cons_zero, List.set_cons_succ])))
    (refine Ord.wpOrd_call ?_ (fun K hK => ?_); (focus (go_simp; done)); go_simp)
    go_at_call 68
    refine (Hrr.out hn40 w7 _ (Hbu.out _ _ _ Hur.out (below_go hb7' hb5))).mono ?_
    rintro r w8 ⟨rfl, hb8⟩
    have hb8' := below_go hb8 hb7'
    (refine hK _ _ (by exact HS5.out _ hb8') ?_; clear hK K; (try simp only [Act.put, List.setIfInBounds_toArray, List.set_cons_zero, List.set_cons_succ]); repeat (first | (refine Ord.wpOrd_skip ?_ ?_; (focus (go_simp; (try (intro h; cases h)); done)); simp only [Act.put, List.setIfInBounds_toArray, List.set_cons_zero, List.set_cons_succ]) | (refine Ord.wpOrd_take (v := ?_) ?_ ?_ ?_; rotate_left; (focus (go_simp; done)); (focus (intro w' hSw; (try dsimp only at hSw); go_simp; (try with_reducible rfl); done)); simp only [Act.put, List.setIfInBounds_toArray, List.set_cons_zero, List.set_cons_succ])))
    refine Ord.wpOrd_nil ?_
    have hb15 := below_go hb8' hb5
    clear HS5 hb6 hb6' hb7 hb7' hb8 hb8' hb5 hb05 Hk5 Hr5
    generalize w8 = w6 at hb15 ⊢
    go_upto_region 7 with fail
    have ks := conv_rd _ (Hv.out.below (below_go (below_go hb15 hb01) hb0))
    go_upto_region 8 with (go_at_call 63; refine (Hrb.out (by omega) _).mono ?_; rintro r w7 ⟨Ay, cy, rfl, hy7, hb7⟩)
    obtain ⟨W2, hW2⟩ : ∃ W, W = w7.alloc (.cells #[.int .i64 auy, .int .u64 (cty : Int), .slice Ay ny cy, .int .i64 kdy, .string (str kyy), .string (str vly)] 97) := ⟨_, rfl⟩
    obtain ⟨gy, hgy⟩ : ∃ g, g = w7.heap.size := ⟨_, rfl⟩
    have Hcy := Lib.hid (show ∀ W, Below W2.heap.size W2 W → (W.cell? ⟨gy, 0, none⟩ = some (.int .i64 auy) ∧ W.cell? ⟨gy, 1, none⟩ = some (.int .u64 (cty : Int)) ∧ W.cell? ⟨gy, 2, none⟩ = some (.slice Ay ny cy) ∧ W.cell? ⟨gy, 3, none⟩ = some (.int .i64 kdy) ∧ W.cell? ⟨gy, 4, none⟩ = some (.string (str kyy)) ∧ W.cell? ⟨gy, 5, none⟩ = some (.string (str vly))) from by
      intro W h; rw [hW2] at h; rw [hgy]; exact ucells (blk_below (heap_alloc_new w7 _) h))
    have hb72 : Below w7.heap.size w7 W2 := by rw [hW2]; exact below_one _ _
    have Huy := Lib.hid (Hby.out _ _ _ hy7 hb72)
    have hb12 : Below W1.heap.size W1 W2 := below_go hb72 (below_go hb7 hb15)
    rw [← hW2, ← hgy]
    clear hW2 hgy hb72 hy7 hb7 hb15 ks
    have ks := conv_rd _ (Hv.out.below (below_go (below_go hb12 hb01) hb0))
    go_upto_region 9 with (go_at_call 70; refine (Hrb2.out (by omega) _).mono ?_; rintro r w8 ⟨Az, cz, rfl, hz8, hb8⟩)
    obtain ⟨W3, hW3⟩ : ∃ W, W = w8.alloc (.cells #[.int .i64 auy, .int .u64 (cty : Int), .slice Az ny cz, .int .i64 kdy, .string (str kyy), .string (str vly)] 105) := ⟨_, rfl⟩
    obtain ⟨gz, hgz⟩ : ∃ g, g = w8.heap.size := ⟨_, rfl⟩
    have Hcz := Lib.hid (show ∀ W, Below W3.heap.size W3 W → (W.cell? ⟨gz, 0, none⟩ = some (.int .i64 auy) ∧ W.cell? ⟨gz, 1, none⟩ = some (.int .u64 (cty : Int)) ∧ W.cell? ⟨gz, 2, none⟩ = some (.slice Az ny cz) ∧ W.cell? ⟨gz, 3, none⟩ = some (.int .i64 kdy) ∧ W.cell? ⟨gz, 4, none⟩ = some (.string (str kyy)) ∧ W.cell? ⟨gz, 5, none⟩ = some (.string (str vly))) from by
      intro W h; rw [hW3] at h; rw [hgz]; exact ucells (blk_below (heap_alloc_new w8 _) h))
    have hb83 : Below w8.heap.size w8 W3 := by rw [hW3]; exact below_one _ _
    have Huz := Lib.hid (Hby.out _ _ _ hz8 hb83)
    have hb23 : Below W2.heap.size W2 W3 := below_go hb83 hb8
    have hb13 : Below W1.heap.size W1 W3 := below_go hb23 hb12
    have hb03 : Below W0.heap.size W0 W3 := below_go hb13 hb01
    rw [← hW3, ← hgz]
    clear hW3 hgz hb83 hz8 hb8 ks hb12
    cases gd with
    | false =>
      have hER : ER = 11 := Her.out
      have hS := fun W (h : Below W3.heap.size W3 W) => And.intro (Hcu.out W (below_go h hb03)) (And.intro (Hcr.out W (below_go h hb13)) (And.intro (Hcy.out W (below_go h hb23)) (Hcz.out W h)))
      have HS := Lib.hid hS
      clear hS
      have heq9 : ((ER : Int) == 0) = false := by rw [hER]; rfl
      have heq11 : ((ER : Int) == 11) = true := by rw [hER]; rfl
      have HER := Lib.hid hER
      clear hER
      (refine Ord.wp_region_ord [(false, 0), (false, 2), (true, 1), (true, 3), (true, 4), (false, 5), (false, 6), (false, 7), (false, 8), (false, 10), (false, 11), (true, 9), (true, 12), (true, 13), (false, 14), (false, 15), (false, 16), (false, 17), (false, 18), (false, 19), (false, 20), (false, 21), (false, 22), (false, 23), (false, 24), (false, 25), (false, 26), (false, 27), (false, 28), (false, 29), (false, 30), (false, 32), (true, 31), (true, 33), (false, 34), (false, 35), (true, 36), (false, 37), (false, 38)] (fun W => ((W.cell? ⟨w.heap.size, 0, none⟩ = some (.int .i64 au) ∧ W.cell? ⟨w.heap.size, 1, none⟩ = some (.int .u64 (ct : Int)) ∧ W.cell? ⟨w.heap.size, 2, none⟩ = some (.slice A n c) ∧ W.cell? ⟨w.heap.size, 3, none⟩ = some (.int .i64 kd) ∧ W.cell? ⟨w.heap.size, 4, none⟩ = some (.string (str ky)) ∧ W.cell? ⟨w.heap.size, 5, none⟩ = some (.string (str vl))) ∧ (W.cell? ⟨w.heap.size + 1, 0, none⟩ = some (.int .i64 au') ∧ W.cell? ⟨w.heap.size + 1, 1, none⟩ = some (.int .u64 (ct' : Int)) ∧ W.cell? ⟨w.heap.size + 1, 2, none⟩ = some (.slice A' n' c') ∧ W.cell? ⟨w.heap.size + 1, 3, none⟩ = some (.int .i64 kd') ∧ W.cell? ⟨w.heap.size + 1, 4, none⟩ = some (.string (str ky')) ∧ W.cell? ⟨w.heap.size + 1, 5, none⟩ = some (.string (str vl')))) ∧ (W.cell? ⟨gr, 0, none⟩ = some (.int .i64 au) ∧ W.cell? ⟨gr, 1, none⟩ = some (.int .u64 (ct : Int)) ∧ W.cell? ⟨gr, 2, none⟩ = some (.slice Ar n cr) ∧ W.cell? ⟨gr, 3, none⟩ = some (.int .i64 kd) ∧ W.cell? ⟨gr, 4, none⟩ = some (.string (str ky)) ∧ W.cell? ⟨gr, 5, none⟩ = some (.string (str vl))) ∧ (W.cell? ⟨gy, 0, none⟩ = some (.int .i64 auy) ∧ W.cell? ⟨gy, 1, none⟩ = some (.int .u64 (cty : Int)) ∧ W.cell? ⟨gy, 2, none⟩ = some (.slice Ay ny cy) ∧ W.cell? ⟨gy, 3, none⟩ = some (.int .i64 kdy) ∧ W.cell? ⟨gy, 4, none⟩ = some (.string (str kyy)) ∧ W.cell? ⟨gy, 5, none⟩ = some (.string (str vly))) ∧ (W.cell? ⟨gz, 0, none⟩ = some (.int .i64 auy) ∧ W.cell? ⟨gz, 1, none⟩ = some (.int .u64 (cty : Int)) ∧ W.cell? ⟨gz, 2, none⟩ = some (.slice Az ny cz) ∧ W.cell? ⟨gz, 3, none⟩ = some (.int .i64 kdy) ∧ W.cell? ⟨gz, 4, none⟩ = some (.string (str kyy)) ∧ W.cell? ⟨gz, 5, none⟩ = some (.string (str vly)))) (by kernel_rfl) (by kernel_rfl) (by kernel_rfl) (by kernel_rfl) (by exact HS.out _ (Below.refl _ _).drew) ?_; simp only [Ord.ordOps, List.filterMap_cons, List.filterMap_nil, List.getElem?_toArray, List.getElem?_cons_succ, List.getElem?_cons_zero, Option.map_some]; repeat (first | (refine Ord.wpOrd_skip ?_ ?_; (focus (go_simp; (try (intro h; cases h)); done)); simp only [Act.put, List.setIfInBounds_toArray, List.set_cons_zero, List.set_cons_succ]) | (refine Ord.wpOrd_take (v := ?_) ?_ ?_ ?_; rotate_left; (focus (go_simp; done)); (focus (intro w' hSw; (try dsimp only at hSw); go_simp; (try with_reducible rfl); done)); simp only [Act.put, List.setIfInBounds_toArray, List.set_cons_zero, List.set_cons_succ])))
      (refine Ord.wpOrd_call ?_ (fun K hK => ?_); (focus (go_simp; done)); go_simp)
      go_at_call 65
      refine (Hid.out W3.drew (below_go hb03.drew hb0)).mono ?_
      rintro r u1 ⟨rfl, hc1⟩
      have hc1' := below_go hc1 (Below.refl W3.heap.size W3).drew
      (refine hK _ _ (by exact HS.out _ hc1') ?_; clear hK K; (try simp only [Act.put, List.setIfInBounds_toArray, List.set_cons_zero, List.set_cons_succ]); repeat (first | (refine Ord.wpOrd_skip ?_ ?_; (focus (go_simp; (try (intro h; cases h)); done)); simp only [Act.put, List.setIfInBounds_toArray, List.set_cons_zero, List.set_cons_succ]) | (refine Ord.wpOrd_take (v := ?_) ?_ ?_ ?_; rotate_left; (focus (go_simp; done)); (focus (intro w' hSw; (try dsimp only at hSw); go_simp; (try with_reducible rfl); done)); simp only [Act.put, List.setIfInBounds_toArray, List.set_cons_zero, List.set_cons_succ])))
      (refine Ord.wpOrd_call ?_ (fun K hK => ?_); (focus (go_simp; done)); go_simp)
      go_at_call 72
      refine (Hall.out u1).mono ?_
      rintro r u2 ⟨rfl, hc2⟩
      have hc2' := below_go hc2 hc1'
      (refine hK _ _ (by exact HS.out _ hc2') ?_; clear hK K; (try simp only [Act.put, List.setIfInBounds_toArray, List.set_cons_zero, List.set_cons_succ]); repeat (first | (refine Ord.wpOrd_skip ?_ ?_; (focus (go_simp; (try (intro h; cases h)); done)); simp only [Act.put, List.setIfInBounds_toArray, List.set_cons_zero, List.set_cons_succ]) | (refine Ord.wpOrd_take (v := ?_) ?_ ?_ ?_; rotate_left; (focus (go_simp; done)); (focus (intro w' hSw; (try dsimp only at hSw); go_simp; (try with_reducible rfl); done)); simp only [Act.put, List.setIfInBounds_toArray, List.set_cons_zero, List.set_cons_succ])))
      (refine Ord.wpOrd_call ?_ (fun K hK => ?_); (focus (go_simp; done)); go_simp)
      go_at_call 71
      refine (Hrid.out hn40 u2 _ (Hbu.out _ _ _ Hur.out (below_go hc2' hb13))).mono ?_
      rintro r u3 ⟨rfl, hc3⟩
      have hc3' := below_go hc3 hc2'
      (refine hK _ _ (by exact HS.out _ hc3') ?_; clear hK K; (try simp only [Act.put, List.setIfInBounds_toArray, List.set_cons_zero, List.set_cons_succ]); repeat (first | (refine Ord.wpOrd_skip ?_ ?_; (focus (go_simp; (try (intro h; cases h)); done)); simp only [Act.put, List.setIfInBounds_toArray, List.set_cons_zero, List.set_cons_succ]) | (refine Ord.wpOrd_take (v := ?_) ?_ ?_ ?_; rotate_left; (focus (go_simp; done)); (focus (intro w' hSw; (try dsimp only at hSw); go_simp; (try with_reducible rfl); done)); simp only [Act.put, List.setIfInBounds_toArray, List.set_cons_zero, List.set_cons_succ])))
      refine Ord.wpOrd_bin ?_ .eql 43 _ _ _ rfl (.agg IA.toArray) (.agg IA.toArray) (.bool true) rfl rfl (fun w' => run_eqGuard_agg w' _ _ _ _ _ _ (by kernel_rfl)) Heq.out ?_
      focus (go_simp; done)
      ((try simp only [Act.put, List.setIfInBounds_toArray, List.set_cons_zero, List.set_cons_succ]); repeat (first | (refine Ord.wpOrd_skip ?_ ?_; (focus (go_simp; (try (intro h; cases h)); done)); simp only [Act.put, List.setIfInBounds_toArray, List.set_cons_zero, List.set_cons_succ]) | (refine Ord.wpOrd_take (v := ?_) ?_ ?_ ?_; rotate_left; (focus (go_simp; done)); (focus (intro w' hSw; (try dsimp only at hSw); go_simp; (try with_reducible rfl); done)); simp only [Act.put, List.setIfInBounds_toArray, List.set_cons_zero, List.set_cons_succ])))
      (refine Ord.wpOrd_call ?_ (fun K hK => ?_); (focus (go_simp; done)); go_simp)
      go_at_call 64
      refine (Hsa.out u3 (below_go (below_go hc3' hb03) hb0)).mono ?_
      rintro r u4 ⟨rfl, hc4⟩
      have hc4' := below_go hc4 hc3'
      (refine hK _ _ (by exact HS.out _ hc4') ?_; clear hK K; (try simp only [Act.put, List.setIfInBounds_toArray, List.set_cons_zero, List.set_cons_succ]); repeat (first | (refine Ord.wpOrd_skip ?_ ?_; (focus (go_simp; (try (intro h; cases h)); done)); simp only [Act.put, List.setIfInBounds_toArray, List.set_cons_zero, List.set_cons_succ]) | (refine Ord.wpOrd_take (v := ?_) ?_ ?_ ?_; rotate_left; (focus (go_simp; done)); (focus (intro w' hSw; (try dsimp only at hSw); go_simp; (try with_reducible rfl); done)); simp only [Act.put, List.setIfInBounds_toArray, List.set_cons_zero, List.set_cons_succ])))
      (refine Ord.wpOrd_call ?_ (fun K hK => ?_); (focus (go_simp; done)); go_simp)
      go_at_call 67
      refine (Hoo.out hn41 u4 (below_go (below_go hc4' hb03) hb0)).mono ?_
      rintro r u5 ⟨Ao, co, rfl, ho5, hc5⟩
      have hc5' := below_go hc5 hc4'
      (refine hK _ _ (by exact HS.out _ hc5') ?_; clear hK K; (try simp only [Act.put, List.setIfInBounds_toArray, List.set_cons_zero, List.set_cons_succ]); repeat (first | (refine Ord.wpOrd_skip ?_ ?_; (focus (go_simp; (try (intro h; cases h)); done)); simp only [Act.put, List.setIfInBounds_toArray, List.set_cons_zero, List.set_cons_succ]) | (refine Ord.wpOrd_take (v := ?_) ?_ ?_ ?_; rotate_left; (focus (go_simp; done)); (focus (intro w' hSw; (try dsimp only at hSw); go_simp; (try with_reducible rfl); done)); simp only [Act.put, List.setIfInBounds_toArray, List.set_cons_zero, List.set_cons_succ])))
      (refine Ord.wpOrd_call ?_ (fun K hK => ?_); (focus (go_simp; done)); go_simp)
      go_at_call 73
      refine (Hrs.out u5 _ _ (Hbu.out _ _ _ Hur.out (below_go hc5' hb13)) ho5).mono ?_
      rintro r u6 ⟨rfl, hc6⟩
      have hc6' := below_go hc6 hc5'
      (refine hK _ _ (by exact HS.out _ hc6') ?_; clear hK K; (try simp only [Act.put, List.setIfInBounds_toArray, List.set_cons_zero, List.set_cons_succ]); repeat (first | (refine Ord.wpOrd_skip ?_ ?_; (focus (go_simp; (try (intro h; cases h)); done)); simp only [Act.put, List.setIfInBounds_toArray, List.set_cons_zero, List.set_cons_succ]) | (refine Ord.wpOrd_take (v := ?_) ?_ ?_ ?_; rotate_left; (focus (go_simp; done)); (focus (intro w' hSw; (try dsimp only at hSw); go_simp; (try with_reducible rfl); done)); simp only [Act.put, List.setIfInBounds_toArray, List.set_cons_zero, List.set_cons_succ])))
      (refine Ord.wpOrd_call ?_ (fun K hK => ?_); (focus (go_simp; done)); go_simp)
      go_at_call 67
      refine (Hoy.out u6 _ (Hby.out _ _ _ Huy.out (below_go hc6' hb23))).mono ?_
      rintro r u7 ⟨Ap, cp, rfl, ho7, hc7⟩
      have hc7' := below_go hc7 hc6'
      (refine hK _ _ (by exact HS.out _ hc7') ?_; clear hK K; (try simp only [Act.put, List.setIfInBounds_toArray, List.set_cons_zero, List.set_cons_succ]); repeat (first | (refine Ord.wpOrd_skip ?_ ?_; (focus (go_simp; (try (intro h; cases h)); done)); simp only [Act.put, List.setIfInBounds_toArray, List.set_cons_zero, List.set_cons_succ]) | (refine Ord.wpOrd_take (v := ?_) ?_ ?_ ?_; rotate_left; (focus (go_simp; done)); (focus (intro w' hSw; (try dsimp only at hSw); go_simp; (try with_reducible rfl); done)); simp only [Act.put, List.setIfInBounds_toArray, List.set_cons_zero, List.set_cons_succ])))
      (refine Ord.wpOrd_call ?_ (fun K hK => ?_); (focus (go_simp; done)); go_simp)
      go_at_call 73
      refine (Hry.out u7 _ _ ho7 (Hby.out _ _ _ Huz.out hc7')).mono ?_
      rintro r u8 ⟨rfl, hc8⟩
      have hc8' := below_go hc8 hc7'
      (refine hK _ _ (by exact HS.out _ hc8') ?_; clear hK K; (try simp only [Act.put, List.setIfInBounds_toArray, List.set_cons_zero, List.set_cons_succ]); repeat (first | (refine Ord.wpOrd_skip ?_ ?_; (focus (go_simp; (try (intro h; cases h)); done)); simp only [Act.put, List.setIfInBounds_toArray, List.set_cons_zero, List.set_cons_succ]) | (refine Ord.wpOrd_take (v := ?_) ?_ ?_ ?_; rotate_left; (focus (go_simp; done)); (focus (intro w' hSw; (try dsimp only at hSw); go_simp; (try with_reducible rfl); done)); simp only [Act.put, List.setIfInBounds_toArray, List.set_cons_zero, List.set_cons_succ])))
      (refine Ord.wpOrd_call ?_ (fun K hK => ?_); (focus (go_simp; done)); go_simp)
      go_at_call 66
      refine (Hone.out u8).mono ?_
      rintro r u9 ⟨rfl, hc9⟩
      have hc9' := below_go hc9 hc8'
      (refine hK _ _ (by exact HS.out _ hc9') ?_; clear hK K; (try simp only [Act.put, List.setIfInBounds_toArray, List.set_cons_zero, List.set_cons_succ]); repeat (first | (refine Ord.wpOrd_skip ?_ ?_; (focus (go_simp; (try (intro h; cases h)); done)); simp only [Act.put, List.setIfInBounds_toArray, List.set_cons_zero, List.set_cons_succ]) | (refine Ord.wpOrd_take (v := ?_) ?_ ?_ ?_; rotate_left; (focus (go_simp; done)); (focus (intro w' hSw; (try dsimp only at hSw); go_simp; (try with_reducible rfl); done)); simp only [Act.put, List.setIfInBounds_toArray, List.set_cons_zero, List.set_cons_succ])))
      refine Ord.wpOrd_nil ?_
      go_wp2_with fail
      go_ret
      exact ⟨rfl, below_go (below_go hc9' hb03) hb0⟩
    | true =>
      have hER : ER = 0 := Her.out
      have hS := fun W (h : Below W3.heap.size W3 W) => And.intro (Hcu.out W (below_go h hb03)) (And.intro (Hcr.out W (below_go h hb13)) (And.intro (Hcy.out W (below_go h hb23)) (Hcz.out W h)))
      have HS := Lib.hid hS
      clear hS
      have heq9 : ((ER : Int) == 0) = true := by rw [hER]; rfl
      have heq11 : ((ER : Int) == 11) = false := by rw [hER]; rfl
      have HER := Lib.hid hER
      clear hER
      (refine Ord.wp_region_ord [(false, 0), (false, 2), (true, 1), (true, 3), (true, 4), (false, 5), (false, 6), (false, 7), (false, 8), (false, 10), (false, 11), (true, 9), (true, 12), (true, 13), (false, 14), (false, 15), (false, 16), (false, 17), (false, 18), (false, 19), (false, 20), (false, 21), (false, 22), (false, 23), (false, 24), (false, 25), (false, 26), (false, 27), (false, 28), (false, 29), (false, 30), (false, 32), (true, 31), (true, 33), (false, 34), (false, 35), (true, 36), (false, 37), (false, 38)] (fun W => ((W.cell? ⟨w.heap.size, 0, none⟩ = some (.int .i64 au) ∧ W.cell? ⟨w.heap.size, 1, none⟩ = some (.int .u64 (ct : Int)) ∧ W.cell? ⟨w.heap.size, 2, none⟩ = some (.slice A n c) ∧ W.cell? ⟨w.heap.size, 3, none⟩ = some (.int .i64 kd) ∧ W.cell? ⟨w.heap.size, 4, none⟩ = some (.string (str ky)) ∧ W.cell? ⟨w.heap.size, 5, none⟩ = some (.string (str vl))) ∧ (W.cell? ⟨w.heap.size + 1, 0, none⟩ = some (.int .i64 au') ∧ W.cell? ⟨w.heap.size + 1, 1, none⟩ = some (.int .u64 (ct' : Int)) ∧ W.cell? ⟨w.heap.size + 1, 2, none⟩ = some (.slice A' n' c') ∧ W.cell? ⟨w.heap.size + 1, 3, none⟩ = some (.int .i64 kd') ∧ W.cell? ⟨w.heap.size + 1, 4, none⟩ = some (.string (str ky')) ∧ W.cell? ⟨w.heap.size + 1, 5, none⟩ = some (.string (str vl')))) ∧ (W.cell? ⟨gr, 0, none⟩ = some (.int .i64 au) ∧ W.cell? ⟨gr, 1, none⟩ = some (.int .u64 (ct : Int)) ∧ W.cell? ⟨gr, 2, none⟩ = some (.slice Ar n cr) ∧ W.cell? ⟨gr, 3, none⟩ = some (.int .i64 kd) ∧ W.cell? ⟨gr, 4, none⟩ = some (.string (str ky)) ∧ W.cell? ⟨gr, 5, none⟩ = some (.string (str vl))) ∧ (W.cell? ⟨gy, 0, none⟩ = some (.int .i64 auy) ∧ W.cell? ⟨gy, 1, none⟩ = some (.int .u64 (cty : Int)) ∧ W.cell? ⟨gy, 2, none⟩ = some (.slice Ay ny cy) ∧ W.cell? ⟨gy, 3, none⟩ = some (.int .i64 kdy) ∧ W.cell? ⟨gy, 4, none⟩ = some (.string (str kyy)) ∧ W.cell? ⟨gy, 5, none⟩ = some (.string (str vly))) ∧ (W.cell? ⟨gz, 0, none⟩ = some (.int .i64 auy) ∧ W.cell? ⟨gz, 1, none⟩ = some (.int .u64 (cty : Int)) ∧ W.cell? ⟨gz, 2, none⟩ = some (.slice Az ny cz) ∧ W.cell? ⟨gz, 3, none⟩ = some (.int .i64 kdy) ∧ W.cell? ⟨gz, 4, none⟩ = some (.string (str kyy)) ∧ W.cell? ⟨gz, 5, none⟩ = some (.string (str vly)))) (by kernel_rfl) (by kernel_rfl) (by kernel_rfl) (by kernel_rfl) (by exact HS.out _ (Below.refl _ _).drew) ?_; simp only [Ord.ordOps, List.filterMap_cons, List.filterMap_nil, List.getElem?_toArray, List.getElem?_cons_succ, List.getElem?_cons_zero, Option.map_some]; repeat (first | (refine Ord.wpOrd_skip ?_ ?_; (focus (go_simp; (try (intro h; cases h)); done)); simp only [Act.put, List.setIfInBounds_toArray, List.set_cons_zero, List.set_cons_succ]) | (refine Ord.wpOrd_take (v := ?_) ?_ ?_ ?_; rotate_left; (focus (go_simp; done)); (focus (intro w' hSw; (try dsimp only at hSw); go_simp; (try with_reducible rfl); done)); simp only [Act.put, List.setIfInBounds_toArray, List.set_cons_zero, List.set_cons_succ])))
      (refine Ord.wpOrd_call ?_ (fun K hK => ?_); (focus (go_simp; done)); go_simp)
      go_at_call 65
      refine (Hid.out W3.drew (below_go hb03.drew hb0)).mono ?_
      rintro r u1 ⟨rfl, hc1⟩
      have hc1' := below_go hc1 (Below.refl W3.heap.size W3).drew
      (refine hK _ _ (by exact HS.out _ hc1') ?_; clear hK K; (try simp only [Act.put, List.setIfInBounds_toArray, List.set_cons_zero, List.set_cons_succ]); repeat (first | (refine Ord.wpOrd_skip ?_ ?_; (focus (go_simp; (try (intro h; cases h)); done)); simp only [Act.put, List.setIfInBounds_toArray, List.set_cons_zero, List.set_cons_succ]) | (refine Ord.wpOrd_take (v := ?_) ?_ ?_ ?_; rotate_left; (focus (go_simp; done)); (focus (intro w' hSw; (try dsimp only at hSw); go_simp; (try with_reducible rfl); done)); simp only [Act.put, List.setIfInBounds_toArray, List.set_cons_zero, List.set_cons_succ])))
      (refine Ord.wpOrd_call ?_ (fun K hK => ?_); (focus (go_simp; done)); go_simp)
      go_at_call 72
      refine (Hall.out u1).mono ?_
      rintro r u2 ⟨rfl, hc2⟩
      have hc2' := below_go hc2 hc1'
      (refine hK _ _ (by exact HS.out _ hc2') ?_; clear hK K; (try simp only [Act.put, List.setIfInBounds_toArray, List.set_cons_zero, List.set_cons_succ]); repeat (first | (refine Ord.wpOrd_skip ?_ ?_; (focus (go_simp; (try (intro h; cases h)); done)); simp only [Act.put, List.setIfInBounds_toArray, List.set_cons_zero, List.set_cons_succ]) | (refine Ord.wpOrd_take (v := ?_) ?_ ?_ ?_; rotate_left; (focus (go_simp; done)); (focus (intro w' hSw; (try dsimp only at hSw); go_simp; (try with_reducible rfl); done)); simp only [Act.put, List.setIfInBounds_toArray, List.set_cons_zero, List.set_cons_succ])))
      (refine Ord.wpOrd_call ?_ (fun K hK => ?_); (focus (go_simp; done)); go_simp)
      go_at_call 71
      refine (Hrid.out hn40 u2 _ (Hbu.out _ _ _ Hur.out (below_go hc2' hb13))).mono ?_
      rintro r u3 ⟨rfl, hc3⟩
      have hc3' := below_go hc3 hc2'
      (refine hK _ _ (by exact HS.out _ hc3') ?_; clear hK K; (try simp only [Act.put, List.setIfInBounds_toArray, List.set_cons_zero, List.set_cons_succ]); repeat (first | (refine Ord.wpOrd_skip ?_ ?_; (focus (go_simp; (try (intro h; cases h)); done)); simp only [Act.put, List.setIfInBounds_toArray, List.set_cons_zero, List.set_cons_succ]) | (refine Ord.wpOrd_take (v := ?_) ?_ ?_ ?_; rotate_left; (focus (go_simp; done)); (focus (intro w' hSw; (try dsimp only at hSw); go_simp; (try with_reducible rfl); done)); simp only [Act.put, List.setIfInBounds_toArray, List.set_cons_zero, List.set_cons_succ])))
      refine Ord.wpOrd_bin ?_ .eql 43 _ _ _ rfl (.agg IA.toArray) (.agg IA.toArray) (.bool true) rfl rfl (fun w' => run_eqGuard_agg w' _ _ _ _ _ _ (by kernel_rfl)) Heq.out ?_
      focus (go_simp; done)
      ((try simp only [Act.put, List.setIfInBounds_toArray, List.set_cons_zero, List.set_cons_succ]); repeat (first | (refine Ord.wpOrd_skip ?_ ?_; (focus (go_simp; (try (intro h; cases h)); done)); simp only [Act.put, List.setIfInBounds_toArray, List.set_cons_zero, List.set_cons_succ]) | (refine Ord.wpOrd_take (v := ?_) ?_ ?_ ?_; rotate_left; (focus (go_simp; done)); (focus (intro w' hSw; (try dsimp only at hSw); go_simp; (try with_reducible rfl); done)); simp only [Act.put, List.setIfInBounds_toArray, List.set_cons_zero, List.set_cons_succ])))
      (refine Ord.wpOrd_call ?_ (fun K hK => ?_); (focus (go_simp; done)); go_simp)
      go_at_call 64
      refine (Hsa.out u3 (below_go (below_go hc3' hb03) hb0)).mono ?_
      rintro r u4 ⟨rfl, hc4⟩
      have hc4' := below_go hc4 hc3'
      (refine hK _ _ (by exact HS.out _ hc4') ?_; clear hK K; (try simp only [Act.put, List.setIfInBounds_toArray, List.set_cons_zero, List.set_cons_succ]); repeat (first | (refine Ord.wpOrd_skip ?_ ?_; (focus (go_simp; (try (intro h; cases h)); done)); simp only [Act.put, List.setIfInBounds_toArray, List.set_cons_zero, List.set_cons_succ]) | (refine Ord.wpOrd_take (v := ?_) ?_ ?_ ?_; rotate_left; (focus (go_simp; done)); (focus (intro w' hSw; (try dsimp only at hSw); go_simp; (try with_reducible rfl); done)); simp only [Act.put, List.setIfInBounds_toArray, List.set_cons_zero, List.set_cons_succ])))
      (refine Ord.wpOrd_call ?_ (fun K hK => ?_); (focus (go_simp; done)); go_simp)
      go_at_call 67
      refine (Hoo.out hn41 u4 (below_go (below_go hc4' hb03) hb0)).mono ?_
      rintro r u5 ⟨Ao, co, rfl, ho5, hc5⟩
      have hc5' := below_go hc5 hc4'
      (refine hK _ _ (by exact HS.out _ hc5') ?_; clear hK K; (try simp only [Act.put, List.setIfInBounds_toArray, List.set_cons_zero, List.set_cons_succ]); repeat (first | (refine Ord.wpOrd_skip ?_ ?_; (focus (go_simp; (try (intro h; cases h)); done)); simp only [Act.put, List.setIfInBounds_toArray, List.set_cons_zero, List.set_cons_succ]) | (refine Ord.wpOrd_take (v := ?_) ?_ ?_ ?_; rotate_left; (focus (go_simp; done)); (focus (intro w' hSw; (try dsimp only at hSw); go_simp; (try with_reducible rfl); done)); simp only [Act.put, List.setIfInBounds_toArray, List.set_cons_zero, List.set_cons_succ])))
      (refine Ord.wpOrd_call ?_ (fun K hK => ?_); (focus (go_simp; done)); go_simp)
      go_at_call 73
      refine (Hrs.out u5 _ _ (Hbu.out _ _ _ Hur.out (below_go hc5' hb13)) ho5).mono ?_
      rintro r u6 ⟨rfl, hc6⟩
      have hc6' := below_go hc6 hc5'
      (refine hK _ _ (by exact HS.out _ hc6') ?_; clear hK K; (try simp only [Act.put, List.setIfInBounds_toArray, List.set_cons_zero, List.set_cons_succ]); repeat (first | (refine Ord.wpOrd_skip ?_ ?_; (focus (go_simp; (try (intro h; cases h)); done)); simp only [Act.put, List.setIfInBounds_toArray, List.set_cons_zero, List.set_cons_succ]) | (refine Ord.wpOrd_take (v := ?_) ?_ ?_ ?_; rotate_left; (focus (go_simp; done)); (focus (intro w' hSw; (try dsimp only at hSw); go_simp; (try with_reducible rfl); done)); simp only [Act.put, List.setIfInBounds_toArray, List.set_cons_zero, List.set_cons_succ])))
      (refine Ord.wpOrd_call ?_ (fun K hK => ?_); (focus (go_simp; done)); go_simp)
      go_at_call 67
      refine (Hoy.out u6 _ (Hby.out _ _ _ Huy.out (below_go hc6' hb23))).mono ?_
      rintro r u7 ⟨Ap, cp, rfl, ho7, hc7⟩
      have hc7' := below_go hc7 hc6'
      (refine hK _ _ (by exact HS.out _ hc7') ?_; clear hK K; (try simp only [Act.put, List.setIfInBounds_toArray, List.set_cons_zero, List.set_cons_succ]); repeat (first | (refine Ord.wpOrd_skip ?_ ?_; (focus (go_simp; (try (intro h; cases h)); done)); simp only [Act.put, List.setIfInBounds_toArray, List.set_cons_zero, List.set_cons_succ]) | (refine Ord.wpOrd_take (v := ?_) ?_ ?_ ?_; rotate_left; (focus (go_simp; done)); (focus (intro w' hSw; (try dsimp only at hSw); go_simp; (try with_reducible rfl); done)); simp only [Act.put, List.setIfInBounds_toArray, List.set_cons_zero, List.set_cons_succ])))
      (refine Ord.wpOrd_call ?_ (fun K hK => ?_); (focus (go_simp; done)); go_simp)
      go_at_call 73
      refine (Hry.out u7 _ _ ho7 (Hby.out _ _ _ Huz.out hc7')).mono ?_
      rintro r u8 ⟨rfl, hc8⟩
      have hc8' := below_go hc8 hc7'
      (refine hK _ _ (by exact HS.out _ hc8') ?_; clear hK K; (try simp only [Act.put, List.setIfInBounds_toArray, List.set_cons_zero, List.set_cons_succ]); repeat (first | (refine Ord.wpOrd_skip ?_ ?_; (focus (go_simp; (try (intro h; cases h)); done)); simp only [Act.put, List.setIfInBounds_toArray, List.set_cons_zero, List.set_cons_succ]) | (refine Ord.wpOrd_take (v := ?_) ?_ ?_ ?_; rotate_left; (focus (go_simp; done)); (focus (intro w' hSw; (try dsimp only at hSw); go_simp; (try with_reducible rfl); done)); simp only [Act.put, List.setIfInBounds_toArray, List.set_cons_zero, List.set_cons_succ])))
      (refine Ord.wpOrd_call ?_ (fun K hK => ?_); (focus (go_simp; done)); go_simp)
      go_at_call 66
      refine (Hone.out u8).mono ?_
      rintro r u9 ⟨rfl, hc9⟩
      have hc9' := below_go hc9 hc8'
      (refine hK _ _ (by exact HS.out _ hc9') ?_; clear hK K; (try simp only [Act.put, List.setIfInBounds_toArray, List.set_cons_zero, List.set_cons_succ]); repeat (first | (refine Ord.wpOrd_skip ?_ ?_; (focus (go_simp; (try (intro h; cases h)); done)); simp only [Act.put, List.setIfInBounds_toArray, List.set_cons_zero, List.set_cons_succ]) | (refine Ord.wpOrd_take (v := ?_) ?_ ?_ ?_; rotate_left; (focus (go_simp; done)); (focus (intro w' hSw; (try dsimp only at hSw); go_simp; (try with_reducible rfl); done)); simp only [Act.put, List.setIfInBounds_toArray, List.set_cons_zero, List.set_cons_succ])))
      refine Ord.wpOrd_nil ?_
      go_wp2_with fail
      go_ret
      exact ⟨rfl, below_go (below_go hc9' hb03) hb0⟩
  | true =>
    have hE : E = 0 := Hpe.out
    subst hE
    have hS5 := fun W (h : Below w5.heap.size w5 W) => And.intro (Hcu.out W (below_go h hb05)) (And.intro (Hcr.out W (below_go h hb5)) (Hk5.out W h))
    have HS5 := Lib.hid hS5
    clear hS5
    (refine Ord.wp_region_ord [(false, 0), (false, 2), (true, 1), (true, 3), (false, 4), (false, 5), (false, 6), (false, 7), (false, 8), (true, 9), (false, 10), (false, 11), (false, 12), (false, 13), (false, 14), (false, 15), (false, 16), (false, 17), (false, 18), (true, 19), (false, 20), (false, 21), (false, 22), (false, 23), (false, 24), (false, 25), (false, 26), (false, 27), (false, 28), (false, 29), (false, 30), (false, 31), (false, 32), (false, 33), (false, 34), (false, 35)] (fun W => ((W.cell? ⟨w.heap.size, 0, none⟩ = some (.int .i64 au) ∧ W.cell? ⟨w.heap.size, 1, none⟩ = some (.int .u64 (ct : Int)) ∧ W.cell? ⟨w.heap.size, 2, none⟩ = some (.slice A n c) ∧ W.cell? ⟨w.heap.size, 3, none⟩ = some (.int .i64 kd) ∧ W.cell? ⟨w.heap.size, 4, none⟩ = some (.string (str ky)) ∧ W.cell? ⟨w.heap.size, 5, none⟩ = some (.string (str vl))) ∧ (W.cell? ⟨w.heap.size + 1, 0, none⟩ = some (.int .i64 au') ∧ W.cell? ⟨w.heap.size + 1, 1, none⟩ = some (.int .u64 (ct' : Int)) ∧ W.cell? ⟨w.heap.size + 1, 2, none⟩ = some (.slice A' n' c') ∧ W.cell? ⟨w.heap.size + 1, 3, none⟩ = some (.int .i64 kd') ∧ W.cell? ⟨w.heap.size + 1, 4, none⟩ = some (.string (str ky')) ∧ W.cell? ⟨w.heap.size + 1, 5, none⟩ = some (.string (str vl')))) ∧ (W.cell? ⟨gr, 0, none⟩ = some (.int .i64 au) ∧ W.cell? ⟨gr, 1, none⟩ = some (.int .u64 (ct : Int)) ∧ W.cell? ⟨gr, 2, none⟩ = some (.slice Ar n cr) ∧ W.cell? ⟨gr, 3, none⟩ = some (.int .i64 kd) ∧ W.cell? ⟨gr, 4, none⟩ = some (.string (str ky)) ∧ W.cell? ⟨gr, 5, none⟩ = some (.string (str vl))) ∧ (convert 23 9 (.slice Ax nX cx)).run Try.prog W = .ok (.string (str X)) W) (by kernel_rfl) (by kernel_rfl) (by kernel_rfl) (by kernel_rfl) (by exact HS5.out _ (Below.refl _ _).drew) ?_; simp only [Ord.ordOps, List.filterMap_cons, List.filterMap_nil, List.getElem?_toArray, List.getElem?_cons_succ, List.getElem?_cons_zero, Option.map_some]; repeat (first | (refine Ord.wpOrd_skip ?_ ?_; (focus (go_simp; (try (intro h; cases h)); done)); simp only [Act.put, List.setIfInBounds_toArray, List.set_cons_zero, List.set_cons_succ]) | (refine Ord.wpOrd_take (v := ?_) ?_ ?_ ?_; rotate_left; (focus (go_simp; done)); (focus (intro w' hSw; (try dsimp only at hSw); go_simp; (try with_reducible rfl); done)); simp only [Act.put, List.setIfInBounds_toArray, List.set_cons_zero, List.set_cons_succ])))
    (refine Ord.wpOrd_call ?_ (fun K hK => ?_); (focus (go_simp; done)); go_simp)
    go_at_call 61
    refine (Hri.out w5.drew (below_go hb05.drew hb0)).mono ?_
    rintro r w6 ⟨rfl, hb6⟩
    have hb6' := below_go hb6 (Below.refl w5.heap.size w5).drew
    (refine hK _ _ (by exact HS5.out _ hb6') ?_; clear hK K; (try simp only [Act.put, List.setIfInBounds_toArray, List.set_cons_zero, List.set_cons_succ]); repeat (first | (refine Ord.wpOrd_skip ?_ ?_; (focus (go_simp; (try (intro h; cases h)); done)); simp only [Act.put, List.setIfInBounds_toArray, List.set_cons_zero, List.set_cons_succ]) | (refine Ord.wpOrd_take (v := ?_) ?_ ?_ ?_; rotate_left; (focus (go_simp; done)); (focus (intro w' hSw; (try dsimp only at hSw); go_simp; (try with_reducible rfl); done)); simp only [Act.put, List.setIfInBounds_toArray, List.set_cons_zero, List.set_cons_succ])))
    (refine Ord.wpOrd_call ?_ (fun K hK => ?_); (focus (go_simp; done)); go_simp)
    go_at_call 68
    refine (Hrr.out hn40 w6 _ (Hbu.out _ _ _ Hur.out (below_go hb6' hb5))).mono ?_
    rintro r w7 ⟨rfl, hb7⟩
    have hb7' := below_go hb7 hb6'
    (refine hK _ _ (by exact HS5.out _ hb7') ?_; clear hK K; (try simp only [Act.put, List.setIfInBounds_toArray, List.set_cons_zero, List.set_cons_succ]); repeat (first | (refine Ord.wpOrd_skip ?_ ?_; (focus (go_simp; (try (intro h; cases h)); done)); simp only [Act.put, List.setIfInBounds_toArray, List.set_cons_zero, List.set_cons_succ]) | (refine Ord.wpOrd_take (v := ?_) ?_ ?_ ?_; rotate_left; (focus (go_simp; done)); (focus (intro w' hSw; (try dsimp only at hSw); go_simp; (try with_reducible rfl); done)); simp only [Act.put, List.setIfInBounds_toArray, List.set_cons_zero, List.set_cons_succ])))
    (refine Ord.wpOrd_call ?_ (fun K hK => ?_); (focus (go_simp; done)); go_simp)
    go_at_call 68
    refine (Hrr.out hn40 w7 _ (Hbu.out _ _ _ Hur.out (below_go hb7' hb5))).mono ?_
    rintro r w8 ⟨rfl, hb8⟩
    have hb8' := below_go hb8 hb7'
    (refine hK _ _ (by exact HS5.out _ hb8') ?_; clear hK K; (try simp only [Act.put, List.setIfInBounds_toArray, List.set_cons_zero, List.set_cons_succ]); repeat (first | (refine Ord.wpOrd_skip ?_ ?_; (focus (go_simp; (try (intro h; cases h)); done)); simp only [Act.put, List.setIfInBounds_toArray, List.set_cons_zero, List.set_cons_succ]) | (refine Ord.wpOrd_take (v := ?_) ?_ ?_ ?_; rotate_left; (focus (go_simp; done)); (focus (intro w' hSw; (try dsimp only at hSw); go_simp; (try with_reducible rfl); done)); simp only [Act.put, List.setIfInBounds_toArray, List.set_cons_zero, List.set_cons_succ])))
    (refine Ord.wpOrd_call ?_ (fun K hK => ?_); (focus (go_simp; done)); go_simp)
    go_at_call 69
    refine (Hrp.out (by trivial) w8 _ (Hbu.out _ _ _ Hur.out (below_go hb8' hb5))).mono ?_
    rintro r w9 ⟨rfl, hb9⟩
    have hb9' := below_go hb9 hb8'
    (refine hK _ _ (by exact HS5.out _ hb9') ?_; clear hK K; (try simp only [Act.put, List.setIfInBounds_toArray, List.set_cons_zero, List.set_cons_succ]); repeat (first | (refine Ord.wpOrd_skip ?_ ?_; (focus (go_simp; (try (intro h; cases h)); done)); simp only [Act.put, List.setIfInBounds_toArray, List.set_cons_zero, List.set_cons_succ]) | (refine Ord.wpOrd_take (v := ?_) ?_ ?_ ?_; rotate_left; (focus (go_simp; done)); (focus (intro w' hSw; (try dsimp only at hSw); go_simp; (try with_reducible rfl); done)); simp only [Act.put, List.setIfInBounds_toArray, List.set_cons_zero, List.set_cons_succ])))
    refine Ord.wpOrd_nil ?_
    have hb15 := below_go hb9' hb5
    clear HS5 hb6 hb6' hb7 hb7' hb8 hb8' hb9 hb9' hb5 hb05 Hk5 Hr5
    generalize w9 = w6 at hb15 ⊢
    go_upto_region 7 with fail
    have ks := conv_rd _ (Hv.out.below (below_go (below_go hb15 hb01) hb0))
    go_upto_region 8 with (go_at_call 63; refine (Hrb.out (by omega) _).mono ?_; rintro r w7 ⟨Ay, cy, rfl, hy7, hb7⟩)
    obtain ⟨W2, hW2⟩ : ∃ W, W = w7.alloc (.cells #[.int .i64 auy, .int .u64 (cty : Int), .slice Ay ny cy, .int .i64 kdy, .string (str kyy), .string (str vly)] 97) := ⟨_, rfl⟩
    obtain ⟨gy, hgy⟩ : ∃ g, g = w7.heap.size := ⟨_, rfl⟩
    have Hcy := Lib.hid (show ∀ W, Below W2.heap.size W2 W → (W.cell? ⟨gy, 0, none⟩ = some (.int .i64 auy) ∧ W.cell? ⟨gy, 1, none⟩ = some (.int .u64 (cty : Int)) ∧ W.cell? ⟨gy, 2, none⟩ = some (.slice Ay ny cy) ∧ W.cell? ⟨gy, 3, none⟩ = some (.int .i64 kdy) ∧ W.cell? ⟨gy, 4, none⟩ = some (.string (str kyy)) ∧ W.cell? ⟨gy, 5, none⟩ = some (.string (str vly))) from by
      intro W h; rw [hW2] at h; rw [hgy]; exact ucells (blk_below (heap_alloc_new w7 _) h))
    have hb72 : Below w7.heap.size w7 W2 := by rw [hW2]; exact below_one _ _
    have Huy := Lib.hid (Hby.out _ _ _ hy7 hb72)
    have hb12 : Below W1.heap.size W1 W2 := below_go hb72 (below_go hb7 hb15)
    rw [← hW2, ← hgy]
    clear hW2 hgy hb72 hy7 hb7 hb15 ks
    have ks := conv_rd _ (Hv.out.below (below_go (below_go hb12 hb01) hb0))
    go_upto_region 9 with (go_at_call 70; refine (Hrb2.out (by omega) _).mono ?_; rintro r w8 ⟨Az, cz, rfl, hz8, hb8⟩)
    obtain ⟨W3, hW3⟩ : ∃ W, W = w8.alloc (.cells #[.int .i64 auy, .int .u64 (cty : Int), .slice Az ny cz, .int .i64 kdy, .string (str kyy), .string (str vly)] 105) := ⟨_, rfl⟩
    obtain ⟨gz, hgz⟩ : ∃ g, g = w8.heap.size := ⟨_, rfl⟩
    have Hcz := Lib.hid (show ∀ W, Below W3.heap.size W3 W → (W.cell? ⟨gz, 0, none⟩ = some (.int .i64 auy) ∧ W.cell? ⟨gz, 1, none⟩ = some (.int .u64 (cty : Int)) ∧ W.cell? ⟨gz, 2, none⟩ = some (.slice Az ny cz) ∧ W.cell? ⟨gz, 3, none⟩ = some (.int .i64 kdy) ∧ W.cell? ⟨gz, 4, none⟩ = some (.string (str kyy)) ∧ W.cell? ⟨gz, 5, none⟩ = some (.string (str vly))) from by
      intro W h; rw [hW3] at h; rw [hgz]; exact ucells (blk_below (heap_alloc_new w8 _) h))
    have hb83 : Below w8.heap.size w8 W3 := by rw [hW3]; exact below_one _ _
    have Huz := Lib.hid (Hby.out _ _ _ hz8 hb83)
    have hb23 : Below W2.heap.size W2 W3 := below_go hb83 hb8
    have hb13 : Below W1.heap.size W1 W3 := below_go hb23 hb12
    have hb03 : Below W0.heap.size W0 W3 := below_go hb13 hb01
    rw [← hW3, ← hgz]
    clear hW3 hgz hb83 hz8 hb8 ks hb12
    cases gd with
    | false =>
      have hER : ER = 11 := Her.out
      have hS := fun W (h : Below W3.heap.size W3 W) => And.intro (Hcu.out W (below_go h hb03)) (And.intro (Hcr.out W (below_go h hb13)) (And.intro (Hcy.out W (below_go h hb23)) (Hcz.out W h)))
      have HS := Lib.hid hS
      clear hS
      have heq9 : ((ER : Int) == 0) = false := by rw [hER]; rfl
      have heq11 : ((ER : Int) == 11) = true := by rw [hER]; rfl
      have HER := Lib.hid hER
      clear hER
      (refine Ord.wp_region_ord [(false, 0), (false, 2), (true, 1), (true, 3), (true, 4), (false, 5), (false, 6), (false, 7), (false, 8), (false, 10), (false, 11), (true, 9), (true, 12), (true, 13), (false, 14), (false, 15), (false, 16), (false, 17), (false, 18), (false, 19), (false, 20), (false, 21), (false, 22), (false, 23), (false, 24), (false, 25), (false, 26), (false, 27), (false, 28), (false, 29), (false, 30), (false, 32), (true, 31), (true, 33), (false, 34), (false, 35), (true, 36), (false, 37), (false, 38)] (fun W => ((W.cell? ⟨w.heap.size, 0, none⟩ = some (.int .i64 au) ∧ W.cell? ⟨w.heap.size, 1, none⟩ = some (.int .u64 (ct : Int)) ∧ W.cell? ⟨w.heap.size, 2, none⟩ = some (.slice A n c) ∧ W.cell? ⟨w.heap.size, 3, none⟩ = some (.int .i64 kd) ∧ W.cell? ⟨w.heap.size, 4, none⟩ = some (.string (str ky)) ∧ W.cell? ⟨w.heap.size, 5, none⟩ = some (.string (str vl))) ∧ (W.cell? ⟨w.heap.size + 1, 0, none⟩ = some (.int .i64 au') ∧ W.cell? ⟨w.heap.size + 1, 1, none⟩ = some (.int .u64 (ct' : Int)) ∧ W.cell? ⟨w.heap.size + 1, 2, none⟩ = some (.slice A' n' c') ∧ W.cell? ⟨w.heap.size + 1, 3, none⟩ = some (.int .i64 kd') ∧ W.cell? ⟨w.heap.size + 1, 4, none⟩ = some (.string (str ky')) ∧ W.cell? ⟨w.heap.size + 1, 5, none⟩ = some (.string (str vl')))) ∧ (W.cell? ⟨gr, 0, none⟩ = some (.int .i64 au) ∧ W.cell? ⟨gr, 1, none⟩ = some (.int .u64 (ct : Int)) ∧ W.cell? ⟨gr, 2, none⟩ = some (.slice Ar n cr) ∧ W.cell? ⟨gr, 3, none⟩ = some (.int .i64 kd) ∧ W.cell? ⟨gr, 4, none⟩ = some (.string (str ky)) ∧ W.cell? ⟨gr, 5, none⟩ = some (.string (str vl))) ∧ (W.cell? ⟨gy, 0, none⟩ = some (.int .i64 auy) ∧ W.cell? ⟨gy, 1, none⟩ = some (.int .u64 (cty : Int)) ∧ W.cell? ⟨gy, 2, none⟩ = some (.slice Ay ny cy) ∧ W.cell? ⟨gy, 3, none⟩ = some (.int .i64 kdy) ∧ W.cell? ⟨gy, 4, none⟩ = some (.string (str kyy)) ∧ W.cell? ⟨gy, 5, none⟩ = some (.string (str vly))) ∧ (W.cell? ⟨gz, 0, none⟩ = some (.int .i64 auy) ∧ W.cell? ⟨gz, 1, none⟩ = some (.int .u64 (cty : Int)) ∧ W.cell? ⟨gz, 2, none⟩ = some (.slice Az ny cz) ∧ W.cell? ⟨gz, 3, none⟩ = some (.int .i64 kdy) ∧ W.cell? ⟨gz, 4, none⟩ = some (.string (str kyy)) ∧ W.cell? ⟨gz, 5, none⟩ = some (.string (str vly)))) (by kernel_rfl) (by kernel_rfl) (by kernel_rfl) (by kernel_rfl) (by exact HS.out _ (Below.refl _ _).drew) ?_; simp only [Ord.ordOps, List.filterMap_cons, List.filterMap_nil, List.getElem?_toArray, List.getElem?_cons_succ, List.getElem?_cons_zero, Option.map_some]; repeat (first | (refine Ord.wpOrd_skip ?_ ?_; (focus (go_simp; (try (intro h; cases h)); done)); simp only [Act.put, List.setIfInBounds_toArray, List.set_cons_zero, List.set_cons_succ]) | (refine Ord.wpOrd_take (v := ?_) ?_ ?_ ?_; rotate_left; (focus (go_simp; done)); (focus (intro w' hSw; (try dsimp only at hSw); go_simp; (try with_reducible rfl); done)); simp only [Act.put, List.setIfInBounds_toArray, List.set_cons_zero, List.set_cons_succ])))
      (refine Ord.wpOrd_call ?_ (fun K hK => ?_); (focus (go_simp; done)); go_simp)
      go_at_call 65
      refine (Hid.out W3.drew (below_go hb03.drew hb0)).mono ?_
      rintro r u1 ⟨rfl, hc1⟩
      have hc1' := below_go hc1 (Below.refl W3.heap.size W3).drew
      (refine hK _ _ (by exact HS.out _ hc1') ?_; clear hK K; (try simp only [Act.put, List.setIfInBounds_toArray, List.set_cons_zero, List.set_cons_succ]); repeat (first | (refine Ord.wpOrd_skip ?_ ?_; (focus (go_simp; (try (intro h; cases h)); done)); simp only [Act.put, List.setIfInBounds_toArray, List.set_cons_zero, List.set_cons_succ]) | (refine Ord.wpOrd_take (v := ?_) ?_ ?_ ?_; rotate_left; (focus (go_simp; done)); (focus (intro w' hSw; (try dsimp only at hSw); go_simp; (try with_reducible rfl); done)); simp only [Act.put, List.setIfInBounds_toArray, List.set_cons_zero, List.set_cons_succ])))
      (refine Ord.wpOrd_call ?_ (fun K hK => ?_); (focus (go_simp; done)); go_simp)
      go_at_call 72
      refine (Hall.out u1).mono ?_
      rintro r u2 ⟨rfl, hc2⟩
      have hc2' := below_go hc2 hc1'
      (refine hK _ _ (by exact HS.out _ hc2') ?_; clear hK K; (try simp only [Act.put, List.setIfInBounds_toArray, List.set_cons_zero, List.set_cons_succ]); repeat (first | (refine Ord.wpOrd_skip ?_ ?_; (focus (go_simp; (try (intro h; cases h)); done)); simp only [Act.put, List.setIfInBounds_toArray, List.set_cons_zero, List.set_cons_succ]) | (refine Ord.wpOrd_take (v := ?_) ?_ ?_ ?_; rotate_left; (focus (go_simp; done)); (focus (intro w' hSw; (try dsimp only at hSw); go_simp; (try with_reducible rfl); done)); simp only [Act.put, List.setIfInBounds_toArray, List.set_cons_zero, List.set_cons_succ])))
      (refine Ord.wpOrd_call ?_ (fun K hK => ?_); (focus (go_simp; done)); go_simp)
      go_at_call 71
      refine (Hrid.out hn40 u2 _ (Hbu.out _ _ _ Hur.out (below_go hc2' hb13))).mono ?_
      rintro r u3 ⟨rfl, hc3⟩
      have hc3' := below_go hc3 hc2'
      (refine hK _ _ (by exact HS.out _ hc3') ?_; clear hK K; (try simp only [Act.put, List.setIfInBounds_toArray, List.set_cons_zero, List.set_cons_succ]); repeat (first | (refine Ord.wpOrd_skip ?_ ?_; (focus (go_simp; (try (intro h; cases h)); done)); simp only [Act.put, List.setIfInBounds_toArray, List.set_cons_zero, List.set_cons_succ]) | (refine Ord.wpOrd_take (v := ?_) ?_ ?_ ?_; rotate_left; (focus (go_simp; done)); (focus (intro w' hSw; (try dsimp only at hSw); go_simp; (try with_reducible rfl); done)); simp only [Act.put, List.setIfInBounds_toArray, List.set_cons_zero, List.set_cons_succ])))
      refine Ord.wpOrd_bin ?_ .eql 43 _ _ _ rfl (.agg IA.toArray) (.agg IA.toArray) (.bool true) rfl rfl (fun w' => run_eqGuard_agg w' _ _ _ _ _ _ (by kernel_rfl)) Heq.out ?_
      focus (go_simp; done)
      ((try simp only [Act.put, List.setIfInBounds_toArray, List.set_cons_zero, List.set_cons_succ]); repeat (first | (refine Ord.wpOrd_skip ?_ ?_; (focus (go_simp; (try (intro h; cases h)); done)); simp only [Act.put, List.setIfInBounds_toArray, List.set_cons_zero, List.set_cons_succ]) | (refine Ord.wpOrd_take (v := ?_) ?_ ?_ ?_; rotate_left; (focus (go_simp; done)); (focus (intro w' hSw; (try dsimp only at hSw); go_simp; (try with_reducible rfl); done)); simp only [Act.put, List.setIfInBounds_toArray, List.set_cons_zero, List.set_cons_succ])))
      (refine Ord.wpOrd_call ?_ (fun K hK => ?_); (focus (go_simp; done)); go_simp)
      go_at_call 64
      refine (Hsa.out u3 (below_go (below_go hc3' hb03) hb0)).mono ?_
      rintro r u4 ⟨rfl, hc4⟩
      have hc4' := below_go hc4 hc3'
      (refine hK _ _ (by exact HS.out _ hc4') ?_; clear hK K; (try simp only [Act.put, List.setIfInBounds_toArray, List.set_cons_zero, List.set_cons_succ]); repeat (first | (refine Ord.wpOrd_skip ?_ ?_; (focus (go_simp; (try (intro h; cases h)); done)); simp only [Act.put, List.setIfInBounds_toArray, List.set_cons_zero, List.set_cons_succ]) | (refine Ord.wpOrd_take (v := ?_) ?_ ?_ ?_; rotate_left; (focus (go_simp; done)); (focus (intro w' hSw; (try dsimp only at hSw); go_simp; (try with_reducible rfl); done)); simp only [Act.put, List.setIfInBounds_toArray, List.set_cons_zero, List.set_cons_succ])))
      (refine Ord.wpOrd_call ?_ (fun K hK => ?_); (focus (go_simp; done)); go_simp)
      go_at_call 67
      refine (Hoo.out hn41 u4 (below_go (below_go hc4' hb03) hb0)).mono ?_
      rintro r u5 ⟨Ao, co, rfl, ho5, hc5⟩
      have hc5' := below_go hc5 hc4'
      (refine hK _ _ (by exact HS.out _ hc5') ?_; clear hK K; (try simp only [Act.put, List.setIfInBounds_toArray, List.set_cons_zero, List.set_cons_succ]); repeat (first | (refine Ord.wpOrd_skip ?_ ?_; (focus (go_simp; (try (intro h; cases h)); done)); simp only [Act.put, List.setIfInBounds_toArray, List.set_cons_zero, List.set_cons_succ]) | (refine Ord.wpOrd_take (v := ?_) ?_ ?_ ?_; rotate_left; (focus (go_simp; done)); (focus (intro w' hSw; (try dsimp only at hSw); go_simp; (try with_reducible rfl); done)); simp only [Act.put, List.setIfInBounds_toArray, List.set_cons_zero, List.set_cons_succ])))
      (refine Ord.wpOrd_call ?_ (fun K hK => ?_); (focus (go_simp; done)); go_simp)
      go_at_call 73
      refine (Hrs.out u5 _ _ (Hbu.out _ _ _ Hur.out (below_go hc5' hb13)) ho5).mono ?_
      rintro r u6 ⟨rfl, hc6⟩
      have hc6' := below_go hc6 hc5'
      (refine hK _ _ (by exact HS.out _ hc6') ?_; clear hK K; (try simp only [Act.put, List.setIfInBounds_toArray, List.set_cons_zero, List.set_cons_succ]); repeat (first | (refine Ord.wpOrd_skip ?_ ?_; (focus (go_simp; (try (intro h; cases h)); done)); simp only [Act.put, List.setIfInBounds_toArray, List.set_cons_zero, List.set_cons_succ]) | (refine Ord.wpOrd_take (v := ?_) ?_ ?_ ?_; rotate_left; (focus (go_simp; done)); (focus (intro w' hSw; (try dsimp only at hSw); go_simp; (try with_reducible rfl); done)); simp only [Act.put, List.setIfInBounds_toArray, List.set_cons_zero, List.set_cons_succ])))
      (refine Ord.wpOrd_call ?_ (fun K hK => ?_); (focus (go_simp; done)); go_simp)
      go_at_call 67
      refine (Hoy.out u6 _ (Hby.out _ _ _ Huy.out (below_go hc6' hb23))).mono ?_
      rintro r u7 ⟨Ap, cp, rfl, ho7, hc7⟩
      have hc7' := below_go hc7 hc6'
      (refine hK _ _ (by exact HS.out _ hc7') ?_; clear hK K; (try simp only [Act.put, List.setIfInBounds_toArray, List.set_cons_zero, List.set_cons_succ]); repeat (first | (refine Ord.wpOrd_skip ?_ ?_; (focus (go_simp; (try (intro h; cases h)); done)); simp only [Act.put, List.setIfInBounds_toArray, List.set_cons_zero, List.set_cons_succ]) | (refine Ord.wpOrd_take (v := ?_) ?_ ?_ ?_; rotate_left; (focus (go_simp; done)); (focus (intro w' hSw; (try dsimp only at hSw); go_simp; (try with_reducible rfl); done)); simp only [Act.put, List.setIfInBounds_toArray, List.set_cons_zero, List.set_cons_succ])))
      (refine Ord.wpOrd_call ?_ (fun K hK => ?_); (focus (go_simp; done)); go_simp)
      go_at_call 73
      refine (Hry.out u7 _ _ ho7 (Hby.out _ _ _ Huz.out hc7')).mono ?_
      rintro r u8 ⟨rfl, hc8⟩
      have hc8' := below_go hc8 hc7'
      (refine hK _ _ (by exact HS.out _ hc8') ?_; clear hK K; (try simp only [Act.put, List.setIfInBounds_toArray, List.set_cons_zero, List.set_cons_succ]); repeat (first | (refine Ord.wpOrd_skip ?_ ?_; (focus (go_simp; (try (intro h; cases h)); done)); simp only [Act.put, List.setIfInBounds_toArray, List.set_cons_zero, List.set_cons_succ]) | (refine Ord.wpOrd_take (v := ?_) ?_ ?_ ?_; rotate_left; (focus (go_simp; done)); (focus (intro w' hSw; (try dsimp only at hSw); go_simp; (try with_reducible rfl); done)); simp only [Act.put, List.setIfInBounds_toArray, List.set_cons_zero, List.set_cons_succ])))
      (refine Ord.wpOrd_call ?_ (fun K hK => ?_); (focus (go_simp; done)); go_simp)
      go_at_call 66
      refine (Hone.out u8).mono ?_
      rintro r u9 ⟨rfl, hc9⟩
      have hc9' := below_go hc9 hc8'
      (refine hK _ _ (by exact HS.out _ hc9') ?_; clear hK K; (try simp only [Act.put, List.setIfInBounds_toArray, List.set_cons_zero, List.set_cons_succ]); repeat (first | (refine Ord.wpOrd_skip ?_ ?_; (focus (go_simp; (try (intro h; cases h)); done)); simp only [Act.put, List.setIfInBounds_toArray, List.set_cons_zero, List.set_cons_succ]) | (refine Ord.wpOrd_take (v := ?_) ?_ ?_ ?_; rotate_left; (focus (go_simp; done)); (focus (intro w' hSw; (try dsimp only at hSw); go_simp; (try with_reducible rfl); done)); simp only [Act.put, List.setIfInBounds_toArray, List.set_cons_zero, List.set_cons_succ])))
      refine Ord.wpOrd_nil ?_
      go_wp2_with fail
      go_ret
      exact ⟨rfl, below_go (below_go hc9' hb03) hb0⟩
    | true =>
      have hER : ER = 0 := Her.out
      have hS := fun W (h : Below W3.heap.size W3 W) => And.intro (Hcu.out W (below_go h hb03)) (And.intro (Hcr.out W (below_go h hb13)) (And.intro (Hcy.out W (below_go h hb23)) (Hcz.out W h)))
      have HS := Lib.hid hS
      clear hS
      have heq9 : ((ER : Int) == 0) = true := by rw [hER]; rfl
      have heq11 : ((ER : Int) == 11) = false := by rw [hER]; rfl
      have HER := Lib.hid hER
      clear hER
      (refine Ord.wp_region_ord [(false, 0), (false, 2), (true, 1), (true, 3), (true, 4), (false, 5), (false, 6), (false, 7), (false, 8), (false, 10), (false, 11), (true, 9), (true, 12), (true, 13), (false, 14), (false, 15), (false, 16), (false, 17), (false, 18), (false, 19), (false, 20), (false, 21), (false, 22), (false, 23), (false, 24), (false, 25), (false, 26), (false, 27), (false, 28), (false, 29), (false, 30), (false, 32), (true, 31), (true, 33), (false, 34), (false, 35), (true, 36), (false, 37), (false, 38)] (fun W => ((W.cell? ⟨w.heap.size, 0, none⟩ = some (.int .i64 au) ∧ W.cell? ⟨w.heap.size, 1, none⟩ = some (.int .u64 (ct : Int)) ∧ W.cell? ⟨w.heap.size, 2, none⟩ = some (.slice A n c) ∧ W.cell? ⟨w.heap.size, 3, none⟩ = some (.int .i64 kd) ∧ W.cell? ⟨w.heap.size, 4, none⟩ = some (.string (str ky)) ∧ W.cell? ⟨w.heap.size, 5, none⟩ = some (.string (str vl))) ∧ (W.cell? ⟨w.heap.size + 1, 0, none⟩ = some (.int .i64 au') ∧ W.cell? ⟨w.heap.size + 1, 1, none⟩ = some (.int .u64 (ct' : Int)) ∧ W.cell? ⟨w.heap.size + 1, 2, none⟩ = some (.slice A' n' c') ∧ W.cell? ⟨w.heap.size + 1, 3, none⟩ = some (.int .i64 kd') ∧ W.cell? ⟨w.heap.size + 1, 4, none⟩ = some (.string (str ky')) ∧ W.cell? ⟨w.heap.size + 1, 5, none⟩ = some (.string (str vl')))) ∧ (W.cell? ⟨gr, 0, none⟩ = some (.int .i64 au) ∧ W.cell? ⟨gr, 1, none⟩ = some (.int .u64 (ct : Int)) ∧ W.cell? ⟨gr, 2, none⟩ = some (.slice Ar n cr) ∧ W.cell? ⟨gr, 3, none⟩ = some (.int .i64 kd) ∧ W.cell? ⟨gr, 4, none⟩ = some (.string (str ky)) ∧ W.cell? ⟨gr, 5, none⟩ = some (.string (str vl))) ∧ (W.cell? ⟨gy, 0, none⟩ = some (.int .i64 auy) ∧ W.cell? ⟨gy, 1, none⟩ = some (.int .u64 (cty : Int)) ∧ W.cell? ⟨gy, 2, none⟩ = some (.slice Ay ny cy) ∧ W.cell? ⟨gy, 3, none⟩ = some (.int .i64 kdy) ∧ W.cell? ⟨gy, 4, none⟩ = some (.string (str kyy)) ∧ W.cell? ⟨gy, 5, none⟩ = some (.string (str vly))) ∧ (W.cell? ⟨gz, 0, none⟩ = some (.int .i64 auy) ∧ W.cell? ⟨gz, 1, none⟩ = some (.int .u64 (cty : Int)) ∧ W.cell? ⟨gz, 2, none⟩ = some (.slice Az ny cz) ∧ W.cell? ⟨gz, 3, none⟩ = some (.int .i64 kdy) ∧ W.cell? ⟨gz, 4, none⟩ = some (.string (str kyy)) ∧ W.cell? ⟨gz, 5, none⟩ = some (.string (str vly)))) (by kernel_rfl) (by kernel_rfl) (by kernel_rfl) (by kernel_rfl) (by exact HS.out _ (Below.refl _ _).drew) ?_; simp only [Ord.ordOps, List.filterMap_cons, List.filterMap_nil, List.getElem?_toArray, List.getElem?_cons_succ, List.getElem?_cons_zero, Option.map_some]; repeat (first | (refine Ord.wpOrd_skip ?_ ?_; (focus (go_simp; (try (intro h; cases h)); done)); simp only [Act.put, List.setIfInBounds_toArray, List.set_cons_zero, List.set_cons_succ]) | (refine Ord.wpOrd_take (v := ?_) ?_ ?_ ?_; rotate_left; (focus (go_simp; done)); (focus (intro w' hSw; (try dsimp only at hSw); go_simp; (try with_reducible rfl); done)); simp only [Act.put, List.setIfInBounds_toArray, List.set_cons_zero, List.set_cons_succ])))
      (refine Ord.wpOrd_call ?_ (fun K hK => ?_); (focus (go_simp; done)); go_simp)
      go_at_call 65
      refine (Hid.out W3.drew (below_go hb03.drew hb0)).mono ?_
      rintro r u1 ⟨rfl, hc1⟩
      have hc1' := below_go hc1 (Below.refl W3.heap.size W3).drew
      (refine hK _ _ (by exact HS.out _ hc1') ?_; clear hK K; (try simp only [Act.put, List.setIfInBounds_toArray, List.set_cons_zero, List.set_cons_succ]); repeat (first | (refine Ord.wpOrd_skip ?_ ?_; (focus (go_simp; (try (intro h; cases h)); done)); simp only [Act.put, List.setIfInBounds_toArray, List.set_cons_zero, List.set_cons_succ]) | (refine Ord.wpOrd_take (v := ?_) ?_ ?_ ?_; rotate_left; (focus (go_simp; done)); (focus (intro w' hSw; (try dsimp only at hSw); go_simp; (try with_reducible rfl); done)); simp only [Act.put, List.setIfInBounds_toArray, List.set_cons_zero, List.set_cons_succ])))
      (refine Ord.wpOrd_call ?_ (fun K hK => ?_); (focus (go_simp; done)); go_simp)
      go_at_call 72
      refine (Hall.out u1).mono ?_
      rintro r u2 ⟨rfl, hc2⟩
      have hc2' := below_go hc2 hc1'
      (refine hK _ _ (by exact HS.out _ hc2') ?_; clear hK K; (try simp only [Act.put, List.setIfInBounds_toArray, List.set_cons_zero, List.set_cons_succ]); repeat (first | (refine Ord.wpOrd_skip ?_ ?_; (focus (go_simp; (try (intro h; cases h)); done)); simp only [Act.put, List.setIfInBounds_toArray, List.set_cons_zero, List.set_cons_succ]) | (refine Ord.wpOrd_take (v := ?_) ?_ ?_ ?_; rotate_left; (focus (go_simp; done)); (focus (intro w' hSw; (try dsimp only at hSw); go_simp; (try with_reducible rfl); done)); simp only [Act.put, List.setIfInBounds_toArray, List.set_cons_zero, List.set_cons_succ])))
      (refine Ord.wpOrd_call ?_ (fun K hK => ?_); (focus (go_simp; done)); go_simp)
      go_at_call 71
      refine (Hrid.out hn40 u2 _ (Hbu.out _ _ _ Hur.out (below_go hc2' hb13))).mono ?_
      rintro r u3 ⟨rfl, hc3⟩
      have hc3' := below_go hc3 hc2'
      (refine hK _ _ (by exact HS.out _ hc3') ?_; clear hK K; (try simp only [Act.put, List.setIfInBounds_toArray, List.set_cons_zero, List.set_cons_succ]); repeat (first | (refine Ord.wpOrd_skip ?_ ?_; (focus (go_simp; (try (intro h; cases h)); done)); simp only [Act.put, List.setIfInBounds_toArray, List.set_cons_zero, List.set_cons_succ]) | (refine Ord.wpOrd_take (v := ?_) ?_ ?_ ?_; rotate_left; (focus (go_simp; done)); (focus (intro w' hSw; (try dsimp only at hSw); go_simp; (try with_reducible rfl); done)); simp only [Act.put, List.setIfInBounds_toArray, List.set_cons_zero, List.set_cons_succ])))
      refine Ord.wpOrd_bin ?_ .eql 43 _ _ _ rfl (.agg IA.toArray) (.agg IA.toArray) (.bool true) rfl rfl (fun w' => run_eqGuard_agg w' _ _ _ _ _ _ (by kernel_rfl)) Heq.out ?_
      focus (go_simp; done)
      ((try simp only [Act.put, List.setIfInBounds_toArray, List.set_cons_zero, List.set_cons_succ]); repeat (first | (refine Ord.wpOrd_skip ?_ ?_; (focus (go_simp; (try (intro h; cases h)); done)); simp only [Act.put, List.setIfInBounds_toArray, List.set_cons_zero, List.set_cons_succ]) | (refine Ord.wpOrd_take (v := ?_) ?_ ?_ ?_; rotate_left; (focus (go_simp; done)); (focus (intro w' hSw; (try dsimp only at hSw); go_simp; (try with_reducible rfl); done)); simp only [Act.put, List.setIfInBounds_toArray, List.set_cons_zero, List.set_cons_succ])))
      (refine Ord.wpOrd_call ?_ (fun K hK => ?_); (focus (go_simp; done)); go_simp)
      go_at_call 64
      refine (Hsa.out u3 (below_go (below_go hc3' hb03) hb0)).mono ?_
      rintro r u4 ⟨rfl, hc4⟩
      have hc4' := below_go hc4 hc3'
      (refine hK _ _ (by exact HS.out _ hc4') ?_; clear hK K; (try simp only [Act.put, List.setIfInBounds_toArray, List.set_cons_zero, List.set_cons_succ]); repeat (first | (refine Ord.wpOrd_skip ?_ ?_; (focus (go_simp; (try (intro h; cases h)); done)); simp only [Act.put, List.setIfInBounds_toArray, List.set_cons_zero, List.set_cons_succ]) | (refine Ord.wpOrd_take (v := ?_) ?_ ?_ ?_; rotate_left; (focus (go_simp; done)); (focus (intro w' hSw; (try dsimp only at hSw); go_simp; (try with_reducible rfl); done)); simp only [Act.put, List.setIfInBounds_toArray, List.set_cons_zero, List.set_cons_succ])))
      (refine Ord.wpOrd_call ?_ (fun K hK => ?_); (focus (go_simp; done)); go_simp)
      go_at_call 67
      refine (Hoo.out hn41 u4 (below_go (below_go hc4' hb03) hb0)).mono ?_
      rintro r u5 ⟨Ao, co, rfl, ho5, hc5⟩
      have hc5' := below_go hc5 hc4'
      (refine hK _ _ (by exact HS.out _ hc5') ?_; clear hK K; (try simp only [Act.put, List.setIfInBounds_toArray, List.set_cons_zero, List.set_cons_succ]); repeat (first | (refine Ord.wpOrd_skip ?_ ?_; (focus (go_simp; (try (intro h; cases h)); done)); simp only [Act.put, List.setIfInBounds_toArray, List.set_cons_zero, List.set_cons_succ]) | (refine Ord.wpOrd_take (v := ?_) ?_ ?_ ?_; rotate_left; (focus (go_simp; done)); (focus (intro w' hSw; (try dsimp only at hSw); go_simp; (try with_reducible rfl); done)); simp only [Act.put, List.setIfInBounds_toArray, List.set_cons_zero, List.set_cons_succ])))
      (refine Ord.wpOrd_call ?_ (fun K hK => ?_); (focus (go_simp; done)); go_simp)
      go_at_call 73
      refine (Hrs.out u5 _ _ (Hbu.out _ _ _ Hur.out (below_go hc5' hb13)) ho5).mono ?_
      rintro r u6 ⟨rfl, hc6⟩
      have hc6' := below_go hc6 hc5'
      (refine hK _ _ (by exact HS.out _ hc6') ?_; clear hK K; (try simp only [Act.put, List.setIfInBounds_toArray, List.set_cons_zero, List.set_cons_succ]); repeat (first | (refine Ord.wpOrd_skip ?_ ?_; (focus (go_simp; (try (intro h; cases h)); done)); simp only [Act.put, List.setIfInBounds_toArray, List.set_cons_zero, List.set_cons_succ]) | (refine Ord.wpOrd_take (v := ?_) ?_ ?_ ?_; rotate_left; (focus (go_simp; done)); (focus (intro w' hSw; (try dsimp only at hSw); go_simp; (try with_reducible rfl); done)); simp only [Act.put, List.setIfInBounds_toArray, List.set_cons_zero, List.set_cons_succ])))
      (refine Ord.wpOrd_call ?_ (fun K hK => ?_); (focus (go_simp; done)); go_simp)
      go_at_call 67
      refine (Hoy.out u6 _ (Hby.out _ _ _ Huy.out (below_go hc6' hb23))).mono ?_
      rintro r u7 ⟨Ap, cp, rfl, ho7, hc7⟩
      have hc7' := below_go hc7 hc6'
      (refine hK _ _ (by exact HS.out _ hc7') ?_; clear hK K; (try simp only [Act.put, List.setIfInBounds_toArray, List.set_cons_zero, List.set_cons_succ]); repeat (first | (refine Ord.wpOrd_skip ?_ ?_; (focus (go_simp; (try (intro h; cases h)); done)); simp only [Act.put, List.setIfInBounds_toArray, List.set_cons_zero, List.set_cons_succ]) | (refine Ord.wpOrd_take (v := ?_) ?_ ?_ ?_; rotate_left; (focus (go_simp; done)); (focus (intro w' hSw; (try dsimp only at hSw); go_simp; (try with_reducible rfl); done)); simp only [Act.put, List.setIfInBounds_toArray, List.set_cons_zero, List.set_cons_succ])))
      (refine Ord.wpOrd_call ?_ (fun K hK => ?_); (focus (go_simp; done)); go_simp)
      go_at_call 73
      refine (Hry.out u7 _ _ ho7 (Hby.out _ _ _ Huz.out hc7')).mono ?_
      rintro r u8 ⟨rfl, hc8⟩
      have hc8' := below_go hc8 hc7'
      (refine hK _ _ (by exact HS.out _ hc8') ?_; clear hK K; (try simp only [Act.put, List.setIfInBounds_toArray, List.set_cons_zero, List.set_cons_succ]); repeat (first | (refine Ord.wpOrd_skip ?_ ?_; (focus (go_simp; (try (intro h; cases h)); done)); simp only [Act.put, List.setIfInBounds_toArray, List.set_cons_zero, List.set_cons_succ]) | (refine Ord.wpOrd_take (v := ?_) ?_ ?_ ?_; rotate_left; (focus (go_simp; done)); (focus (intro w' hSw; (try dsimp only at hSw); go_simp; (try with_reducible rfl); done)); simp only [Act.put, List.setIfInBounds_toArray, List.set_cons_zero, List.set_cons_succ])))
      (refine Ord.wpOrd_call ?_ (fun K hK => ?_); (focus (go_simp; done)); go_simp)
      go_at_call 66
      refine (Hone.out u8).mono ?_
      rintro r u9 ⟨rfl, hc9⟩
      have hc9' := below_go hc9 hc8'
      (refine hK _ _ (by exact HS.out _ hc9') ?_; clear hK K; (try simp only [Act.put, List.setIfInBounds_toArray, List.set_cons_zero, List.set_cons_succ]); repeat (first | (refine Ord.wpOrd_skip ?_ ?_; (focus (go_simp; (try (intro h; cases h)); done)); simp only [Act.put, List.setIfInBounds_toArray, List.set_cons_zero, List.set_cons_succ]) | (refine Ord.wpOrd_take (v := ?_) ?_ ?_ ?_; rotate_left; (focus (go_simp; done)); (focus (intro w' hSw; (try dsimp only at hSw); go_simp; (try with_reducible rfl); done)); simp only [Act.put, List.setIfInBounds_toArray, List.set_cons_zero, List.set_cons_succ])))
      refine Ord.wpOrd_nil ?_
      go_wp2_with fail
      go_ret
      exact ⟨rfl, below_go (below_go hc9' hb03) hb0⟩
end Go.Proofs.Ytcjabfdjngekfaa.Upd
