/- The state behind a block, by definition: the first loop. -/
import Derived.Test.YtcjabfdjngekfaaShaConsts
set_option linter.unusedVariables false
set_option linter.unusedSimpArgs false
namespace Go.Proofs.Ytcjabfdjngekfaa.Sha
open Go.RowKit Go.Proofs.Ytcjabfdjngekfaa.Wd

theorem wor_comm (x y : UInt32) : wor x y = wor y x := UInt32.or_comm x y
theorem wadd_swap (a b c : UInt32) : wadd (wadd a b) c = wadd (wadd a c) b := by unfold wadd; rw [UInt32.add_assoc, UInt32.add_comm b c, ← UInt32.add_assoc]
set_option maxRecDepth 100000 in
theorem rturn_w (x : UInt32) (n : Nat) (h0 : 0 < n) (h32 : n < 32) (w : World) :
    Calls Try.prog 178 #[.int .u32 (x.toNat : Int), .int .i64 (n : Int)] w fun e w' => e = .returned (.int .u32 ((rotr x n).toNat : Int)) ∧ w' = w := by
  obtain ⟨m, hm⟩ : ∃ m, m = 32 - n := ⟨_, rfl⟩
  have e1 : IntKind.u32.wrap ((x.toNat : Int) * 2 ^ m) = ((wshl x m).toNat : Int) := W_shl x m (by omega)
  have e2 := W_shr x n h32
  have e4 : (x.toNat : Int) * 2 ^ m % 4294967296 = ((wshl x m).toNat : Int) := by rw [← e1, IntKind.wrap_u32]
  have e3 := W_or (wshr x n) (wshl x m)
  have hs : IntKind.i64.wrap (32 - (n : Int)) = (m : Int) := by rw [IntKind.wrap_i64]; omega
  have hs2 : (32 - (n : Int)) = (m : Int) := by omega
  have hm1 : (0 : Int) ≤ (m : Int) := by omega
  have hm2 : (m : Int) ≤ 32 := by omega
  have hm3 : (0 : Int) ≤ (n : Int) := by omega
  have hm4 : (n : Int) ≤ 32 := by omega
  have Hm := Lib.hid hm
  clear hm
  go_enter Try.func178, Try.ntmps178
  go_wp2
  go_ret
  refine ⟨?_, rfl⟩
  rw [rotr, wor_comm, ← Hm.out]; rfl
/-- the call's own blocks -/
structure BF (w W : World) (C S L : List Value) : Prop where
  c : W.heap[w.heap.size]? = some (.cells C.toArray 114 (0, 0))
  s : W.heap[w.heap.size + 1]? = some (.cells S.toArray 112 (0, 0))
  r : W.heap[w.heap.size + 1 + 1]? = some (.cells (part [] 8).toArray 112 (0, 0))
  l : W.heap[w.heap.size + 1 + 1 + 1]? = some (.cells L.toArray 111 (0, 0))
  b : Below w.heap.size w W
theorem BF.draw {w W : World} {C S L : List Value} (h : BF w W C S L) : BF w W.drew C S L := ⟨h.c, h.s, h.r, h.l, h.b.drew⟩
theorem BF.put {w W : World} {C S : List Value} {l : List UInt32} {t : Nat} (h : BF w W C S (part l 64)) (hl : l.length = t) (ht : t < 64) (x : UInt32) : BF w (W.setCell ⟨w.heap.size + 1 + 1 + 1, t, none⟩ (.int .u32 (x.toNat : Int))) C S (part (l ++ [x]) 64) :=
  ⟨blk_far h.c (by simp only; omega) _, blk_far h.s (by simp only; omega) _, blk_far h.r (by simp only; omega) _, part_put h.l hl ht x, h.b.setCell (by simp only; omega) _⟩
set_option maxRecDepth 100000 in
set_option maxHeartbeats 4000000 in
theorem block_any (s : St) (buf : List UInt8) (hb : buf.length = 64) (w : World) :
    Calls Try.prog 163 #[.agg (ws (K0 ++ F0.list)).toArray, .agg (ws s.list).toArray, .string (str buf)] w fun e w' => e = .returned (.agg (ws (mixSt K0 s buf).list).toArray) ∧ Below w.heap.size w w' := by
  obtain ⟨C, hC⟩ : ∃ C, C = ws (K0 ++ F0.list) := ⟨_, rfl⟩
  obtain ⟨S, hS⟩ : ∃ S, S = ws s.list := ⟨_, rfl⟩
  obtain ⟨sb, hsb⟩ : ∃ sb, sb = str buf := ⟨_, rfl⟩
  rw [← hC, ← hS, ← hsb]
  have HC := Lib.hid hC
  have HS := Lib.hid hS
  have Hsb := Lib.hid hsb
  clear hC hS hsb
  go_enter Try.func163, Try.ntmps163
  go_wp2_with fail
  go_loopw [8] (fun i wr => ∃ t : Nat, t ≤ 64 ∧ i = .int .i64 t ∧ BF w wr C S (part (sched buf t) 64)) (fun i _ => 64 - (intOf i).toNat)
  case atStart =>
    refine ⟨0, Nat.zero_le _, rfl, ?_, ?_, ?_, ?_, ?_⟩
    · exact blk_alloc (blk_alloc (blk_alloc (heap_alloc_new _ _) _) _) _
    · refine blk_alloc (blk_alloc ?_ _) _
      have := heap_alloc_new (w.alloc (.cells C.toArray 114)) (.cells S.toArray 112)
      rw [alloc_size] at this; exact this
    · refine blk_alloc ?_ _
      have := heap_alloc_new ((w.alloc (.cells C.toArray 114)).alloc (.cells S.toArray 112)) (.cells (part [] 8).toArray 112)
      rw [alloc_size, alloc_size] at this; exact this
    · have := heap_alloc_new (((w.alloc (.cells C.toArray 114)).alloc (.cells S.toArray 112)).alloc (.cells (part [] 8).toArray 112)) (.cells (part [] 64).toArray 111)
      rw [alloc_size, alloc_size, alloc_size] at this; exact this
    · exact ((((Below.refl _ _).alloc (Nat.le_refl _) _).alloc (by rw [alloc_size]; omega) _).alloc (by rw [alloc_size, alloc_size]; omega) _).alloc (by rw [alloc_size, alloc_size, alloc_size]; omega) _
  case round =>
    obtain ⟨t, ht, rfl, hF⟩ := hrel
    have hlen := sched_length buf t
    by_cases h16 : t < 16
    · skip
      --{
      obtain ⟨q, hq⟩ : ∃ q, q = 4 * t := ⟨_, rfl⟩
      have hq1 : IntKind.i64.wrap (4 * (t : Int)) = (q : Int) := by rw [IntKind.wrap_i64]; omega
      have hq3 : q ≤ 60 := by omega
      have hq2 : 4 * (t : Int) = (q : Int) := by omega
      have hnx : nextW buf (sched buf t) t = be32 (gb buf q) (gb buf (q + 1)) (gb buf (q + 2)) (gb buf (q + 3)) := by rw [nextW, if_pos h16, hq]
      have hsz : sb.size = 64 := by rw [Hsb.out, str_size, hb]
      have hI : ∀ (i : Nat) (h : i < sb.size), ((sb[i]'h).toNat : Int) = ((w8 (gb buf i)).toNat : Int) := by
        intro i h
        have e : ∀ (s2 : ByteArray) (h2 : i < s2.size), s2 = str buf → (s2[i]'h2).toNat = (w8 (gb buf i)).toNat := by
          intro s2 h2 e2
          subst e2
          have hh : i < buf.length := by omega
          have e3 : gb buf i = buf[i]'hh := by unfold gb; rw [List.getD_eq_getElem?_getD, List.getElem?_eq_getElem hh]; rfl
          rw [str_getElem, e3]
          rfl
        rw [e sb h Hsb.out]
      have hI0 := hI q
      have hI1 := hI (q + 1)
      have hI2 := hI (q + 2)
      have hI3 := hI (q + 3)
      have z0 : (q : Int) < (sb.size : Int) := by omega
      have z1 : (q : Int) + 1 < (sb.size : Int) := by omega
      have z2 : (q : Int) + 2 < (sb.size : Int) := by omega
      have z3 : (q : Int) + 3 < (sb.size : Int) := by omega
      have y1 : IntKind.i64.wrap ((q : Int) + 1) = (q : Int) + 1 := by rw [IntKind.wrap_i64]; omega
      have y2 : IntKind.i64.wrap ((q : Int) + 2) = (q : Int) + 2 := by rw [IntKind.wrap_i64]; omega
      have y3 : IntKind.i64.wrap ((q : Int) + 3) = (q : Int) + 3 := by rw [IntKind.wrap_i64]; omega
      have y0 : IntKind.i64.wrap (q : Int) = (q : Int) := by rw [IntKind.wrap_i64]; omega
      have n1 : ((q : Int) + 1).toNat = q + 1 := by omega
      have n2 : ((q : Int) + 2).toNat = q + 2 := by omega
      have n3 : ((q : Int) + 3).toNat = q + 3 := by omega
      have p0 : (0 : Int) ≤ (q : Int) := by omega
      have p1 : (0 : Int) ≤ (q : Int) + 1 := by omega
      have p2 : (0 : Int) ≤ (q : Int) + 2 := by omega
      have p3 : (0 : Int) ≤ (q : Int) + 3 := by omega
      have Hsz := Lib.hid hsz
      clear hsz
      have b8 : ∀ c : UInt8, (w8 c).toNat < 256 := by intro c; have := c.toNat_lt; simp [w8]; omega
      have b0 := b8 (gb buf q)
      have b1 := b8 (gb buf (q + 1))
      have b2 := b8 (gb buf (q + 2))
      have b3 := b8 (gb buf (q + 3))
      rw [be32] at hnx
      obtain ⟨x0, hx0⟩ : ∃ x, x = w8 (gb buf q) := ⟨_, rfl⟩
      obtain ⟨x1, hx1⟩ : ∃ x, x = w8 (gb buf (q + 1)) := ⟨_, rfl⟩
      obtain ⟨x2, hx2⟩ : ∃ x, x = w8 (gb buf (q + 2)) := ⟨_, rfl⟩
      obtain ⟨x3, hx3⟩ : ∃ x, x = w8 (gb buf (q + 3)) := ⟨_, rfl⟩
      rw [← hx0] at hI0 b0 hnx
      rw [← hx1] at hI1 b1 hnx
      rw [← hx2] at hI2 b2 hnx
      rw [← hx3] at hI3 b3 hnx
      have Hnx := Lib.hid hnx
      clear hx0 hx1 hx2 hx3 b8 hq hnx hI
      have hwid : ∀ x : UInt32, IntKind.u32.wrap (x.toNat : Int) = (x.toNat : Int) := by intro x; have := x.toNat_lt; rw [IntKind.wrap_u32]; omega
      have s24 : (x0.toNat : Int) * 16777216 = ((wshl x0 24).toNat : Int) := by rw [← W_shl x0 24 (by omega), IntKind.wrap_u32]; omega
      have s16 : (x1.toNat : Int) * 65536 = ((wshl x1 16).toNat : Int) := by rw [← W_shl x1 16 (by omega), IntKind.wrap_u32]; omega
      have s8 : (x2.toNat : Int) * 256 = ((wshl x2 8).toNat : Int) := by rw [← W_shl x2 8 (by omega), IntKind.wrap_u32]; omega
      have o1 := W_or (wshl x0 24) (wshl x1 16)
      have o2 := W_or (wor (wshl x0 24) (wshl x1 16)) (wshl x2 8)
      have o3 := W_or (wor (wor (wshl x0 24) (wshl x1 16)) (wshl x2 8)) x3
      have ht1 : (0 : Int) ≤ (t : Int) := by omega
      have ht2 : (t : Int) < 64 := by omega
      have hcell : ∃ v, wr.cell? ⟨w.heap.size + 1 + 1 + 1, t, none⟩ = some v := by
        rw [blk_cell hF.l t]
        simp only [List.getElem?_toArray]
        exact ⟨_, List.getElem?_eq_getElem (by rw [part_length _ _ (by omega)]; omega)⟩
      obtain ⟨v0, hv0⟩ := hcell
      have hvf := blk_frozen hF.l t
      go_wp2_with fail
      (refine Ord.wp_region_ord [(false, 0), (false, 1), (false, 2), (false, 3), (false, 4), (false, 5), (false, 6), (false, 7), (false, 8), (false, 9), (false, 10), (false, 11), (false, 12), (false, 13), (false, 14), (false, 15), (false, 16), (false, 17), (false, 18), (false, 19), (false, 20), (false, 21), (false, 22), (false, 23), (false, 24), (false, 25), (false, 26), (false, 27), (false, 28), (false, 29), (false, 30), (true, 31)] (fun w' => True) (by kernel_rfl) (by kernel_rfl) (by kernel_rfl) (by kernel_rfl) (by trivial) ?_; simp only [Ord.ordOps, List.filterMap_cons, List.filterMap_nil, List.getElem?_toArray, List.getElem?_cons_succ, List.getElem?_cons_zero, Option.map_some]; repeat (first | (refine Ord.wpOrd_skip ?_ ?_; (focus (go_simp; (try (intro h; cases h)); done)); simp only [Act.put, List.setIfInBounds_toArray, List.set_cons_zero, List.set_cons_succ]) | (refine Ord.wpOrd_take (v := ?_) ?_ ?_ ?_; rotate_left; (focus (go_simp; done)); (focus (intro w' hSw; (try dsimp only at hSw); go_simp; (try with_reducible rfl); done)); simp only [Act.put, List.setIfInBounds_toArray, List.set_cons_zero, List.set_cons_succ])))
      (refine Ord.wpOrd_call ?_ (fun K hK => ?_); (focus (go_simp; done)); go_simp)
      (refine hK _ _ (by trivial) ?_; clear hK K; (try simp only [Act.put, List.setIfInBounds_toArray, List.set_cons_zero, List.set_cons_succ]); repeat (first | (refine Ord.wpOrd_skip ?_ ?_; (focus (go_simp; (try (intro h; cases h)); done)); simp only [Act.put, List.setIfInBounds_toArray, List.set_cons_zero, List.set_cons_succ]) | (refine Ord.wpOrd_take (v := ?_) ?_ ?_ ?_; rotate_left; (focus (go_simp; done)); (focus (intro w' hSw; (try dsimp only at hSw); go_simp; (try with_reducible rfl); done)); simp only [Act.put, List.setIfInBounds_toArray, List.set_cons_zero, List.set_cons_succ])))
      refine Ord.wpOrd_nil ?_
      go_wp2
      refine ⟨⟨t + 1, by omega, by go_num, ?_⟩, by simp only [intOf]; omega⟩
      rw [sched, Hnx.out]
      exact hF.draw.put hlen (by omega) _
      --}
    by_cases h64 : t = 64
    · subst h64
      have hFl : BF w wr C S (ws (sched buf 64)) := by have := hF; rw [part_full _ _ hlen] at this; exact this
      obtain ⟨Wd, hWd⟩ : ∃ L, L = sched buf 64 := ⟨_, rfl⟩
      rw [← hWd] at hFl hlen
      have HWd := Lib.hid hWd
      have Hlen := Lib.hid hlen
      have hS1 : S.length = 8 := by rw [HS.out, ws_length]; rfl
      have HS1 := Lib.hid hS1
      have hr1 : wr.rangeAt (w.heap.size + 1) 0 S := fun j v hv => by rw [Nat.zero_add, blk_cell hFl.s j]; simpa using hv
      have Hr1 := Lib.hid hr1
      have Hi1 : Hid ((Try.prog.info? 112).map (·.size) = some S.length) := by show _ = _; rw [hS1]; rfl
      have hSo : ∀ v ∈ S, v.oneCell' = true := by rw [HS.out]; exact ws_one _
      have hG : w.heap.size + 4 ≤ wr.heap.size := by have := blk_lt hFl.l; omega
      clear hWd hlen hF hS1 hr1 h16
      have hd1 : decide ((64 : Int) < 64) = false := by decide
      obtain ⟨wo, rfl⟩ : ∃ wo : World, wo = wr := ⟨_, rfl⟩
      go_wp2_with (first
        | (refine wpList_load_mid rfl _ _ rfl (w.heap.size + 1) 0 rfl S _ Hr1.out Try.underlying112 rfl Hi1.out ?_)
        | (refine wpList_store_all rfl 112 _ _ rfl wo.heap.size S (part [] 8) rfl rfl hSo (by rw [HS1.out]; rfl) Hi1.out 112 (heap_alloc_new _ _) ?_; intro wp hwp hgp))
      have hFp : BF w wp C S (ws Wd) := ⟨blk_grown (blk_alloc hFl.c _) hgp (by intro e; injection e with e; omega), blk_grown (blk_alloc hFl.s _) hgp (by intro e; injection e with e; omega), blk_grown (blk_alloc hFl.r _) hgp (by intro e; injection e with e; omega), blk_grown (blk_alloc hFl.l _) hgp (by intro e; injection e with e; omega), (hFl.b.alloc hFl.b.size _).grown hgp (by rw [alloc_size]; have := hFl.b.size; omega) (fun k hk => by injection hk with hk; have := hFl.b.size; omega)⟩
      clear hFl hgp Hr1
      generalize hGG : wo.heap.size = G at hwp hG ⊢
      rw [HS.out] at hwp
      have Hwp := Lib.hid hwp.out
      clear hwp hGG
      go_loopw [12] (fun i wr => ∃ (t : Nat) (r : St), t ≤ 64 ∧ i = .int .i64 t ∧ Hid (r = rounds K0 Wd s t) ∧ BF w wr C S (ws Wd) ∧ Hid (wr.heap[G]? = some (.cells (ws r.list).toArray 112 (0, 0)))) (fun i _ => 64 - (intOf i).toNat)
      case atStart => exact ⟨0, s, Nat.zero_le _, rfl, rfl, hFp, Hwp⟩
      case round =>
        clear hFp Hwp
        obtain ⟨t, r, ht, rfl, Hr, hF, Hv⟩ := hrel
        by_cases h64 : t < 64
        · skip
          --{
          have hv : ∀ (i : Nat) (x : UInt32), i < 8 → gw r.list i = x → wr.cell? ⟨G, i, none⟩ = some (.int .u32 (x.toNat : Int)) := by
            intro i x hi hx
            rw [blk_cell Hv.out i]; simp only [List.getElem?_toArray]
            rw [ws_get _ _ (show i < r.list.length from hi), hx]; rfl
          have k0 := hv 0 r.a (by omega) rfl
          have k1 := hv 1 r.b (by omega) rfl
          have k2 := hv 2 r.c (by omega) rfl
          have k3 := hv 3 r.d (by omega) rfl
          have k4 := hv 4 r.e (by omega) rfl
          have k5 := hv 5 r.f (by omega) rfl
          have k6 := hv 6 r.g (by omega) rfl
          have k7 := hv 7 r.h (by omega) rfl
          obtain ⟨kk, hkk⟩ : ∃ x, x = gw K0 t := ⟨_, rfl⟩
          obtain ⟨wk, hwk⟩ : ∃ x, x = gw Wd t := ⟨_, rfl⟩
          have c1 : wr.cell? ⟨w.heap.size, t, none⟩ = some (.int .u32 (kk.toNat : Int)) := by
            rw [blk_cell hF.c t]; simp only [List.getElem?_toArray]
            rw [HC.out, ws_append, List.getElem?_append_left (by rw [ws_length]; exact h64), hkk]; exact ws_get _ _ h64
          have c2 : wr.cell? ⟨w.heap.size + 1 + 1 + 1, t, none⟩ = some (.int .u32 (wk.toNat : Int)) := by
            rw [blk_cell hF.l t]; simp only [List.getElem?_toArray]
            rw [hwk]; exact ws_get _ _ (by rw [Hlen.out]; exact h64)
          have Hkk := Lib.hid hkk
          have Hwk := Lib.hid hwk
          clear hv hkk hwk
          have ra := W_add
          have ram := W_addm
          have rx := W_xor
          have rn := W_and
          have rnot := W_not
          have ht1 : (t : Int) < 64 := by omega
          go_wp2_with fail
          (refine Ord.wp_region_ord [(false, 0), (false, 1), (false, 2), (false, 3), (false, 4), (false, 5)] (fun w' => (w'.cell? ⟨G, 4, none⟩ = some (.int .u32 (r.e.toNat : Int)) ∧ w'.cell? ⟨G, 0, none⟩ = some (.int .u32 (r.a.toNat : Int)))) (by kernel_rfl) (by kernel_rfl) (by kernel_rfl) (by kernel_rfl) (by exact ⟨k4, k0⟩) ?_; simp only [Ord.ordOps, List.filterMap_cons, List.filterMap_nil, List.getElem?_toArray, List.getElem?_cons_succ, List.getElem?_cons_zero, Option.map_some]; repeat (first | (refine Ord.wpOrd_skip ?_ ?_; (focus (go_simp; (try (intro h; cases h)); done)); simp only [Act.put, List.setIfInBounds_toArray, List.set_cons_zero, List.set_cons_succ]) | (refine Ord.wpOrd_take (v := ?_) ?_ ?_ ?_; rotate_left; (focus (go_simp; done)); (focus (intro w' hSw; (try dsimp only at hSw); go_simp; (try with_reducible rfl); done)); simp only [Act.put, List.setIfInBounds_toArray, List.set_cons_zero, List.set_cons_succ])))
          refine Ord.wpOrd_nil ?_
          go_wp2_with fail
          (refine Ord.wp_region_ord [(false, 0), (false, 1), (false, 2), (false, 4), (false, 7), (false, 11), (false, 12), (false, 13), (false, 14), (false, 15), (false, 16), (false, 17), (false, 18), (false, 19), (false, 20), (false, 22), (false, 23), (false, 24), (false, 25), (false, 27), (false, 28), (false, 29), (true, 3), (true, 5), (false, 6), (true, 8), (false, 9), (false, 10), (false, 21), (false, 26), (false, 30), (false, 31)] (fun w' => (w'.cell? ⟨G, 5, none⟩ = some (.int .u32 (r.f.toNat : Int)) ∧ w'.cell? ⟨G, 6, none⟩ = some (.int .u32 (r.g.toNat : Int)) ∧ w'.cell? ⟨G, 7, none⟩ = some (.int .u32 (r.h.toNat : Int)) ∧ w'.cell? ⟨w.heap.size, t, none⟩ = some (.int .u32 (kk.toNat : Int)) ∧ w'.cell? ⟨w.heap.size + 1 + 1 + 1, t, none⟩ = some (.int .u32 (wk.toNat : Int)))) (by kernel_rfl) (by kernel_rfl) (by kernel_rfl) (by kernel_rfl) (by exact ⟨k5, k6, k7, c1, c2⟩) ?_; simp only [Ord.ordOps, List.filterMap_cons, List.filterMap_nil, List.getElem?_toArray, List.getElem?_cons_succ, List.getElem?_cons_zero, Option.map_some]; repeat (first | (refine Ord.wpOrd_skip ?_ ?_; (focus (go_simp; (try (intro h; cases h)); done)); simp only [Act.put, List.setIfInBounds_toArray, List.set_cons_zero, List.set_cons_succ]) | (refine Ord.wpOrd_take (v := ?_) ?_ ?_ ?_; rotate_left; (focus (go_simp; done)); (focus (intro w' hSw; (try dsimp only at hSw); go_simp; (try with_reducible rfl); done)); simp only [Act.put, List.setIfInBounds_toArray, List.set_cons_zero, List.set_cons_succ])))
          (refine Ord.wpOrd_call ?_ (fun K hK => ?_); (focus (go_simp; done)); go_simp)
          go_at_call 178
          refine (rturn_w r.e 6 (by omega) (by omega) _).mono ?_
          rintro e w3 ⟨rfl, rfl⟩
          (refine hK _ _ (by exact ⟨k5, k6, k7, c1, c2⟩) ?_; clear hK K; (try simp only [Act.put, List.setIfInBounds_toArray, List.set_cons_zero, List.set_cons_succ]); repeat (first | (refine Ord.wpOrd_skip ?_ ?_; (focus (go_simp; (try (intro h; cases h)); done)); simp only [Act.put, List.setIfInBounds_toArray, List.set_cons_zero, List.set_cons_succ]) | (refine Ord.wpOrd_take (v := ?_) ?_ ?_ ?_; rotate_left; (focus (go_simp; done)); (focus (intro w' hSw; (try dsimp only at hSw); go_simp; (try with_reducible rfl); done)); simp only [Act.put, List.setIfInBounds_toArray, List.set_cons_zero, List.set_cons_succ])))
          (refine Ord.wpOrd_call ?_ (fun K hK => ?_); (focus (go_simp; done)); go_simp)
          go_at_call 178
          refine (rturn_w r.e 11 (by omega) (by omega) _).mono ?_
          rintro e w3 ⟨rfl, rfl⟩
          (refine hK _ _ (by exact ⟨k5, k6, k7, c1, c2⟩) ?_; clear hK K; (try simp only [Act.put, List.setIfInBounds_toArray, List.set_cons_zero, List.set_cons_succ]); repeat (first | (refine Ord.wpOrd_skip ?_ ?_; (focus (go_simp; (try (intro h; cases h)); done)); simp only [Act.put, List.setIfInBounds_toArray, List.set_cons_zero, List.set_cons_succ]) | (refine Ord.wpOrd_take (v := ?_) ?_ ?_ ?_; rotate_left; (focus (go_simp; done)); (focus (intro w' hSw; (try dsimp only at hSw); go_simp; (try with_reducible rfl); done)); simp only [Act.put, List.setIfInBounds_toArray, List.set_cons_zero, List.set_cons_succ])))
          (refine Ord.wpOrd_call ?_ (fun K hK => ?_); (focus (go_simp; done)); go_simp)
          go_at_call 178
          refine (rturn_w r.e 25 (by omega) (by omega) _).mono ?_
          rintro e w3 ⟨rfl, rfl⟩
          (refine hK _ _ (by exact ⟨k5, k6, k7, c1, c2⟩) ?_; clear hK K; (try simp only [Act.put, List.setIfInBounds_toArray, List.set_cons_zero, List.set_cons_succ]); repeat (first | (refine Ord.wpOrd_skip ?_ ?_; (focus (go_simp; (try (intro h; cases h)); done)); simp only [Act.put, List.setIfInBounds_toArray, List.set_cons_zero, List.set_cons_succ]) | (refine Ord.wpOrd_take (v := ?_) ?_ ?_ ?_; rotate_left; (focus (go_simp; done)); (focus (intro w' hSw; (try dsimp only at hSw); go_simp; (try with_reducible rfl); done)); simp only [Act.put, List.setIfInBounds_toArray, List.set_cons_zero, List.set_cons_succ])))
          refine Ord.wpOrd_nil ?_
          go_wp2_with fail
          (refine Ord.wp_region_ord [(false, 0), (false, 2), (false, 5), (false, 8), (false, 9), (false, 10), (false, 11), (false, 12), (false, 13), (false, 14), (false, 15), (false, 16), (false, 17), (false, 18), (false, 19), (false, 20), (false, 21), (false, 22), (true, 1), (true, 3), (false, 4), (true, 6), (false, 7), (false, 23), (false, 24)] (fun w' => (w'.cell? ⟨G, 1, none⟩ = some (.int .u32 (r.b.toNat : Int)) ∧ w'.cell? ⟨G, 2, none⟩ = some (.int .u32 (r.c.toNat : Int)))) (by kernel_rfl) (by kernel_rfl) (by kernel_rfl) (by kernel_rfl) (by exact ⟨k1, k2⟩) ?_; simp only [Ord.ordOps, List.filterMap_cons, List.filterMap_nil, List.getElem?_toArray, List.getElem?_cons_succ, List.getElem?_cons_zero, Option.map_some]; repeat (first | (refine Ord.wpOrd_skip ?_ ?_; (focus (go_simp; (try (intro h; cases h)); done)); simp only [Act.put, List.setIfInBounds_toArray, List.set_cons_zero, List.set_cons_succ]) | (refine Ord.wpOrd_take (v := ?_) ?_ ?_ ?_; rotate_left; (focus (go_simp; done)); (focus (intro w' hSw; (try dsimp only at hSw); go_simp; (try with_reducible rfl); done)); simp only [Act.put, List.setIfInBounds_toArray, List.set_cons_zero, List.set_cons_succ])))
          (refine Ord.wpOrd_call ?_ (fun K hK => ?_); (focus (go_simp; done)); go_simp)
          go_at_call 178
          refine (rturn_w r.a 2 (by omega) (by omega) _).mono ?_
          rintro e w3 ⟨rfl, rfl⟩
          (refine hK _ _ (by exact ⟨k1, k2⟩) ?_; clear hK K; (try simp only [Act.put, List.setIfInBounds_toArray, List.set_cons_zero, List.set_cons_succ]); repeat (first | (refine Ord.wpOrd_skip ?_ ?_; (focus (go_simp; (try (intro h; cases h)); done)); simp only [Act.put, List.setIfInBounds_toArray, List.set_cons_zero, List.set_cons_succ]) | (refine Ord.wpOrd_take (v := ?_) ?_ ?_ ?_; rotate_left; (focus (go_simp; done)); (focus (intro w' hSw; (try dsimp only at hSw); go_simp; (try with_reducible rfl); done)); simp only [Act.put, List.setIfInBounds_toArray, List.set_cons_zero, List.set_cons_succ])))
          (refine Ord.wpOrd_call ?_ (fun K hK => ?_); (focus (go_simp; done)); go_simp)
          go_at_call 178
          refine (rturn_w r.a 13 (by omega) (by omega) _).mono ?_
          rintro e w3 ⟨rfl, rfl⟩
          (refine hK _ _ (by exact ⟨k1, k2⟩) ?_; clear hK K; (try simp only [Act.put, List.setIfInBounds_toArray, List.set_cons_zero, List.set_cons_succ]); repeat (first | (refine Ord.wpOrd_skip ?_ ?_; (focus (go_simp; (try (intro h; cases h)); done)); simp only [Act.put, List.setIfInBounds_toArray, List.set_cons_zero, List.set_cons_succ]) | (refine Ord.wpOrd_take (v := ?_) ?_ ?_ ?_; rotate_left; (focus (go_simp; done)); (focus (intro w' hSw; (try dsimp only at hSw); go_simp; (try with_reducible rfl); done)); simp only [Act.put, List.setIfInBounds_toArray, List.set_cons_zero, List.set_cons_succ])))
          (refine Ord.wpOrd_call ?_ (fun K hK => ?_); (focus (go_simp; done)); go_simp)
          go_at_call 178
          refine (rturn_w r.a 22 (by omega) (by omega) _).mono ?_
          rintro e w3 ⟨rfl, rfl⟩
          (refine hK _ _ (by exact ⟨k1, k2⟩) ?_; clear hK K; (try simp only [Act.put, List.setIfInBounds_toArray, List.set_cons_zero, List.set_cons_succ]); repeat (first | (refine Ord.wpOrd_skip ?_ ?_; (focus (go_simp; (try (intro h; cases h)); done)); simp only [Act.put, List.setIfInBounds_toArray, List.set_cons_zero, List.set_cons_succ]) | (refine Ord.wpOrd_take (v := ?_) ?_ ?_ ?_; rotate_left; (focus (go_simp; done)); (focus (intro w' hSw; (try dsimp only at hSw); go_simp; (try with_reducible rfl); done)); simp only [Act.put, List.setIfInBounds_toArray, List.set_cons_zero, List.set_cons_succ])))
          refine Ord.wpOrd_nil ?_
          have Hi8 : (Try.prog.info? 112).map (·.size) = some (ws (r.round kk wk).list).length := by rw [ws_length]; rfl
          have HI8 := Lib.hid Hi8
          clear Hi8
          go_wp2_with (refine wpList_store_all rfl 112 _ _ rfl G (ws (r.round kk wk).list) (ws r.list) rfl rfl (ws_one _) (by rw [ws_length, ws_length]; rfl) HI8.out 112 Hv.out ?_; intro wq hwq hgq)
          refine ⟨⟨t + 1, r.round kk wk, by omega, by go_num, ?_, ?_, hwq⟩, by simp only [intOf]; omega⟩
          · show _ = _
            rw [Hkk.out, Hwk.out, Hr.out]; rfl
          · have hF3 := hF.draw.draw.draw
            exact ⟨blk_grown hF3.c hgq (by intro e; injection e with e; omega), blk_grown hF3.s hgq (by intro e; injection e with e; omega), blk_grown hF3.r hgq (by intro e; injection e with e; omega), blk_grown hF3.l hgq (by intro e; injection e with e; omega), hF3.b.grown hgq hF3.b.size (fun k hk => by injection hk with hk; omega)⟩
          --}
        · obtain rfl : t = 64 := by omega
          have hd2 : decide ((64 : Int) < 64) = false := by decide
          clear h64
          obtain ⟨wo2, rfl⟩ : ∃ wo : World, wo = wr := ⟨_, rfl⟩
          go_wp2_with fail
          simp only [Int.cast_ofNat_Int]
          go_loopw [17] (fun i wq => ∃ j : Nat, j ≤ 8 ∧ i = .int .i64 j ∧ Hid (wq.heap[w.heap.size + 1]? = some (.cells (ws (wsum s.list r.list j)).toArray 112 (0, 0))) ∧ Hid (wq.heap[w.heap.size + 1 + 1]? = some (.cells (part [] 8).toArray 112 (0, 0))) ∧ Hid (wq.heap[G]? = some (.cells (ws r.list).toArray 112 (0, 0))) ∧ Below w.heap.size w wq) (fun i _ => 8 - (intOf i).toNat)
          case atStart =>
            refine ⟨0, by omega, rfl, ?_, hF.r, Hv, hF.b⟩
            have h1 := hF.s
            rw [HS.out] at h1
            exact h1
          case round =>
            clear hF Hv
            obtain ⟨j, hj, rfl, G1, G2, G3, hB⟩ := hrel
            have hlw := wsum_length s.list r.list j rfl (by rw [St.list_length]; exact hj)
            by_cases hj8 : j < 8
            · have hc1 : wr.cell? ⟨w.heap.size + 1, j, none⟩ = some (.int .u32 ((gw s.list j).toNat : Int)) := by
                have := wsum_get s.list r.list j rfl (by rw [St.list_length]; exact hj8)
                rw [blk_cell G1.out j]; simp only [List.getElem?_toArray]
                rw [ws_get _ _ (by rw [hlw, St.list_length]; exact hj8), this]; rfl
              have hc2 : wr.cell? ⟨G, j, none⟩ = some (.int .u32 ((gw r.list j).toNat : Int)) := by
                rw [blk_cell G3.out j]; simp only [List.getElem?_toArray]
                rw [ws_get _ _ (by rw [St.list_length]; exact hj8)]; rfl
              obtain ⟨aj, haj⟩ : ∃ x, x = gw s.list j := ⟨_, rfl⟩
              obtain ⟨bj, hbj⟩ : ∃ x, x = gw r.list j := ⟨_, rfl⟩
              rw [← haj] at hc1
              rw [← hbj] at hc2
              have hfj := blk_frozen G1.out j
              have hj1 : (j : Int) < 8 := by omega
              have Haj := Lib.hid haj
              have Hbj := Lib.hid hbj
              have Hlw := Lib.hid hlw
              clear haj hbj hlw
              have rab := W_add aj bj
              have rabm := W_addm aj bj
              go_wp2_with fail
              go_still_tail 9, (by kernel_rfl)
              change wpList _ _ _ _ _ wr.drew
              go_wp2
              refine ⟨⟨j + 1, by omega, by go_num, ?_, blk_far G2.out (by simp) _, blk_far G3.out (by simp only; omega) _, hB.drew.setCell (by simp) _⟩, by simp only [intOf]; omega⟩
              have h1 := blk_set G1.out j (W (wadd aj bj))
              rw [List.setIfInBounds_toArray] at h1
              have h2 : (ws (wsum s.list r.list j)).set j (W (wadd aj bj)) = ws (wsum s.list r.list (j + 1)) := by
                rw [Haj.out, Hbj.out, ← wsum_set s.list r.list j rfl (by rw [St.list_length]; exact hj8)]
                simp [ws, List.map_set]
              rw [h2] at h1
              exact h1
            · obtain rfl : j = 8 := by omega
              obtain ⟨R, hR⟩ : ∃ R, R = ws (mixSt K0 s buf).list := ⟨_, rfl⟩
              have hRG : ws (wsum s.list r.list 8) = R := by rw [hR, wsum_all, Hr.out, HWd.out]; rfl
              rw [hRG] at G1
              have hRl : R.length = 8 := by rw [hR, ws_length]; rfl
              have hRo : ∀ v ∈ R, v.oneCell' = true := by rw [hR]; exact ws_one _
              have hr1 : wr.rangeAt (w.heap.size + 1) 0 R := fun j v hv => by rw [Nat.zero_add, blk_cell G1.out j]; simpa using hv
              have Hr1 := Lib.hid hr1
              have Hi1 : Hid ((Try.prog.info? 112).map (·.size) = some R.length) := by show _ = _; rw [hRl]; rfl
              have HRl := Lib.hid hRl
              have HR := Lib.hid hR
              clear hR hRG hRl hr1 hj8 hlw
              have hd3 : decide ((8 : Int) < 8) = false := by decide
              go_wp2_with (first
                | (refine wpList_load_mid rfl _ _ rfl (w.heap.size + 1) 0 rfl R _ Hr1.out Try.underlying112 rfl Hi1.out ?_)
                | (refine wpList_store_all rfl 112 _ _ rfl (w.heap.size + 1 + 1) R (part [] 8) rfl rfl hRo (by rw [HRl.out]; rfl) Hi1.out 112 G2.out ?_; intro wz hwz hgz))
              have hr2 : wz.rangeAt (w.heap.size + 1 + 1) 0 R := fun j v hv => by rw [Nat.zero_add, blk_cell hwz.out j]; simpa using hv
              refine bodyPost_ret (v := .agg R.toArray) (results_cell_mid rfl _ _ (w.heap.size + 1 + 1) R _ rfl hr2 Try.underlying112 rfl Hi1.out) rfl ⟨by rw [HR.out], ?_⟩
              exact hB.grown hgz hB.size (fun k hk => by injection hk with hk; omega)
    · skip
      --{
      have hpl := part_length (sched buf t) 64 (by omega)
      obtain ⟨t15, ht15⟩ : ∃ x, x = t - 15 := ⟨_, rfl⟩
      obtain ⟨t2, ht2⟩ : ∃ x, x = t - 2 := ⟨_, rfl⟩
      obtain ⟨t16, ht16⟩ : ∃ x, x = t - 16 := ⟨_, rfl⟩
      obtain ⟨t7, ht7⟩ : ∃ x, x = t - 7 := ⟨_, rfl⟩
      have w15 : IntKind.i64.wrap ((t : Int) - 15) = (t15 : Int) := by rw [IntKind.wrap_i64]; omega
      have w2 : IntKind.i64.wrap ((t : Int) - 2) = (t2 : Int) := by rw [IntKind.wrap_i64]; omega
      have w16 : IntKind.i64.wrap ((t : Int) - 16) = (t16 : Int) := by rw [IntKind.wrap_i64]; omega
      have w7 : IntKind.i64.wrap ((t : Int) - 7) = (t7 : Int) := by rw [IntKind.wrap_i64]; omega
      have v15 : (t : Int) - 15 = (t15 : Int) := by omega
      have v2 : (t : Int) - 2 = (t2 : Int) := by omega
      have v16 : (t : Int) - 16 = (t16 : Int) := by omega
      have v7 : (t : Int) - 7 = (t7 : Int) := by omega
      have u15 : IntKind.i64.wrap (t15 : Int) = (t15 : Int) := by rw [IntKind.wrap_i64]; omega
      have u2 : IntKind.i64.wrap (t2 : Int) = (t2 : Int) := by rw [IntKind.wrap_i64]; omega
      have u16 : IntKind.i64.wrap (t16 : Int) = (t16 : Int) := by rw [IntKind.wrap_i64]; omega
      have u7 : IntKind.i64.wrap (t7 : Int) = (t7 : Int) := by rw [IntKind.wrap_i64]; omega
      have hnx : nextW buf (sched buf t) t = wadd (wadd (wadd (gw (sched buf t) t16) (gw (sched buf t) t7)) (s0 (gw (sched buf t) t15))) (s1 (gw (sched buf t) t2)) := by rw [nextW, if_neg h16, ht15, ht2, ht16, ht7, wadd_swap (gw (sched buf t) (t - 16))]
      have hge : ∀ i, i < t → wr.cell? ⟨w.heap.size + 1 + 1 + 1, i, none⟩ = some (W (gw (sched buf t) i)) := by
        intro i hi
        rw [blk_cell hF.l i]
        simp only [List.getElem?_toArray]
        exact part_get _ _ _ (by omega)
      have c15 := hge t15 (by omega)
      have c2 := hge t2 (by omega)
      have c16 := hge t16 (by omega)
      have c7 := hge t7 (by omega)
      obtain ⟨x, hx⟩ : ∃ x, x = gw (sched buf t) t15 := ⟨_, rfl⟩
      obtain ⟨y, hy⟩ : ∃ x, x = gw (sched buf t) t2 := ⟨_, rfl⟩
      obtain ⟨a, ha⟩ : ∃ x, x = gw (sched buf t) t16 := ⟨_, rfl⟩
      obtain ⟨b, hb⟩ : ∃ x, x = gw (sched buf t) t7 := ⟨_, rfl⟩
      rw [← hx] at c15 hnx
      rw [← hy] at c2 hnx
      rw [← ha] at c16 hnx
      rw [← hb] at c7 hnx
      have Hnx := Lib.hid hnx
      have b15 : (t15 : Int) < 64 := by omega
      have b2 : (t2 : Int) < 64 := by omega
      have b16 : (t16 : Int) < 64 := by omega
      have b7 : (t7 : Int) < 64 := by omega
      have bt : (t : Int) < 64 := by omega
      have hcell : ∃ v, wr.cell? ⟨w.heap.size + 1 + 1 + 1, t, none⟩ = some v := by
        rw [blk_cell hF.l t]
        simp only [List.getElem?_toArray]
        exact ⟨_, List.getElem?_eq_getElem (by omega)⟩
      obtain ⟨v0, hv0⟩ := hcell
      have hvf := blk_frozen hF.l t
      have hfar : ∀ (i : Nat) (u v : Value), i ≠ t → wr.cell? ⟨w.heap.size + 1 + 1 + 1, i, none⟩ = some u → ((wr.setCell ⟨w.heap.size + 1 + 1 + 1, t, none⟩ v).drew.drew).cell? ⟨w.heap.size + 1 + 1 + 1, i, none⟩ = some u := by
        intro i u v hi hu
        have := blk_cell (blk_set hF.l t v) i
        rw [blk_cell hF.l i] at hu
        show (wr.setCell ⟨w.heap.size + 1 + 1 + 1, t, none⟩ v).cell? _ = _
        rw [this, Array.getElem?_setIfInBounds_ne (by omega)]
        exact hu
      have f16 := fun v => hfar t16 (.int .u32 (a.toNat : Int)) v (by omega)
      have f7 := fun v => hfar t7 (.int .u32 (b.toNat : Int)) v (by omega)
      have F16 := Lib.hid f16
      have F7 := Lib.hid f7
      clear hx hy ha hb hnx hge ht15 ht2 ht16 ht7 hfar f16 f7
      unfold W at c15 c2 c16 c7
      have ra := W_add
      have ram := W_addm
      have rx := W_xor
      have r3 : (x.toNat : Int) / 8 = ((wshr x 3).toNat : Int) := W_shr x 3 (by omega)
      have r10 : (y.toNat : Int) / 1024 = ((wshr y 10).toNat : Int) := W_shr y 10 (by omega)
      go_wp2_with fail
      (refine Ord.wp_region_ord [(false, 0), (false, 1), (false, 2), (false, 3), (false, 4), (false, 5), (false, 6), (false, 7), (false, 8), (false, 9)] (fun w' => w'.cell? ⟨w.heap.size + 1 + 1 + 1, t15, none⟩ = some (.int .u32 (x.toNat : Int)) ∧ w'.cell? ⟨w.heap.size + 1 + 1 + 1, t2, none⟩ = some (.int .u32 (y.toNat : Int))) (by kernel_rfl) (by kernel_rfl) (by kernel_rfl) (by kernel_rfl) (by exact ⟨c15, c2⟩) ?_; simp only [Ord.ordOps, List.filterMap_cons, List.filterMap_nil, List.getElem?_toArray, List.getElem?_cons_succ, List.getElem?_cons_zero, Option.map_some]; repeat (first | (refine Ord.wpOrd_skip ?_ ?_; (focus (go_simp; (try (intro h; cases h)); done)); simp only [Act.put, List.setIfInBounds_toArray, List.set_cons_zero, List.set_cons_succ]) | (refine Ord.wpOrd_take (v := ?_) ?_ ?_ ?_; rotate_left; (focus (go_simp; done)); (focus (intro w' hSw; (try dsimp only at hSw); go_simp; (try with_reducible rfl); done)); simp only [Act.put, List.setIfInBounds_toArray, List.set_cons_zero, List.set_cons_succ])))
      refine Ord.wpOrd_nil ?_
      go_wp2_with fail
      (refine Ord.wp_region_ord [(false, 0), (false, 1), (false, 2), (false, 3), (false, 4), (false, 5), (false, 6), (false, 7), (false, 8), (false, 9), (false, 10), (false, 12), (false, 15), (false, 16), (false, 19), (false, 21), (false, 24), (false, 25), (true, 11), (true, 13), (false, 14), (false, 17), (false, 18), (true, 20), (true, 22), (false, 23), (false, 26), (false, 27), (false, 28), (true, 29)] (fun w' => w'.cell? ⟨w.heap.size + 1 + 1 + 1, t16, none⟩ = some (.int .u32 (a.toNat : Int)) ∧ w'.cell? ⟨w.heap.size + 1 + 1 + 1, t7, none⟩ = some (.int .u32 (b.toNat : Int))) (by kernel_rfl) (by kernel_rfl) (by kernel_rfl) (by kernel_rfl) (by exact ⟨c16, c7⟩) ?_; simp only [Ord.ordOps, List.filterMap_cons, List.filterMap_nil, List.getElem?_toArray, List.getElem?_cons_succ, List.getElem?_cons_zero, Option.map_some]; repeat (first | (refine Ord.wpOrd_skip ?_ ?_; (focus (go_simp; (try (intro h; cases h)); done)); simp only [Act.put, List.setIfInBounds_toArray, List.set_cons_zero, List.set_cons_succ]) | (refine Ord.wpOrd_take (v := ?_) ?_ ?_ ?_; rotate_left; (focus (go_simp; done)); (focus (intro w' hSw; (try dsimp only at hSw); go_simp; (try with_reducible rfl); done)); simp only [Act.put, List.setIfInBounds_toArray, List.set_cons_zero, List.set_cons_succ])))
      (refine Ord.wpOrd_call ?_ (fun K hK => ?_); (focus (go_simp; done)); go_simp)
      go_at_call 178
      refine (rturn_w x 7 (by omega) (by omega) _).mono ?_
      rintro e w3 ⟨rfl, rfl⟩
      (refine hK _ _ (by exact ⟨c16, c7⟩) ?_; clear hK K; (try simp only [Act.put, List.setIfInBounds_toArray, List.set_cons_zero, List.set_cons_succ]); repeat (first | (refine Ord.wpOrd_skip ?_ ?_; (focus (go_simp; (try (intro h; cases h)); done)); simp only [Act.put, List.setIfInBounds_toArray, List.set_cons_zero, List.set_cons_succ]) | (refine Ord.wpOrd_take (v := ?_) ?_ ?_ ?_; rotate_left; (focus (go_simp; done)); (focus (intro w' hSw; (try dsimp only at hSw); go_simp; (try with_reducible rfl); done)); simp only [Act.put, List.setIfInBounds_toArray, List.set_cons_zero, List.set_cons_succ])))
      (refine Ord.wpOrd_call ?_ (fun K hK => ?_); (focus (go_simp; done)); go_simp)
      go_at_call 178
      refine (rturn_w x 18 (by omega) (by omega) _).mono ?_
      rintro e w3 ⟨rfl, rfl⟩
      (refine hK _ _ (by exact ⟨c16, c7⟩) ?_; clear hK K; (try simp only [Act.put, List.setIfInBounds_toArray, List.set_cons_zero, List.set_cons_succ]); repeat (first | (refine Ord.wpOrd_skip ?_ ?_; (focus (go_simp; (try (intro h; cases h)); done)); simp only [Act.put, List.setIfInBounds_toArray, List.set_cons_zero, List.set_cons_succ]) | (refine Ord.wpOrd_take (v := ?_) ?_ ?_ ?_; rotate_left; (focus (go_simp; done)); (focus (intro w' hSw; (try dsimp only at hSw); go_simp; (try with_reducible rfl); done)); simp only [Act.put, List.setIfInBounds_toArray, List.set_cons_zero, List.set_cons_succ])))
      (refine Ord.wpOrd_call ?_ (fun K hK => ?_); (focus (go_simp; done)); go_simp)
      go_at_call 178
      refine (rturn_w y 17 (by omega) (by omega) _).mono ?_
      rintro e w3 ⟨rfl, rfl⟩
      (refine hK _ _ (by exact ⟨c16, c7⟩) ?_; clear hK K; (try simp only [Act.put, List.setIfInBounds_toArray, List.set_cons_zero, List.set_cons_succ]); repeat (first | (refine Ord.wpOrd_skip ?_ ?_; (focus (go_simp; (try (intro h; cases h)); done)); simp only [Act.put, List.setIfInBounds_toArray, List.set_cons_zero, List.set_cons_succ]) | (refine Ord.wpOrd_take (v := ?_) ?_ ?_ ?_; rotate_left; (focus (go_simp; done)); (focus (intro w' hSw; (try dsimp only at hSw); go_simp; (try with_reducible rfl); done)); simp only [Act.put, List.setIfInBounds_toArray, List.set_cons_zero, List.set_cons_succ])))
      (refine Ord.wpOrd_call ?_ (fun K hK => ?_); (focus (go_simp; done)); go_simp)
      go_at_call 178
      refine (rturn_w y 19 (by omega) (by omega) _).mono ?_
      rintro e w3 ⟨rfl, rfl⟩
      (refine hK _ _ (by exact ⟨c16, c7⟩) ?_; clear hK K; (try simp only [Act.put, List.setIfInBounds_toArray, List.set_cons_zero, List.set_cons_succ]); repeat (first | (refine Ord.wpOrd_skip ?_ ?_; (focus (go_simp; (try (intro h; cases h)); done)); simp only [Act.put, List.setIfInBounds_toArray, List.set_cons_zero, List.set_cons_succ]) | (refine Ord.wpOrd_take (v := ?_) ?_ ?_ ?_; rotate_left; (focus (go_simp; done)); (focus (intro w' hSw; (try dsimp only at hSw); go_simp; (try with_reducible rfl); done)); simp only [Act.put, List.setIfInBounds_toArray, List.set_cons_zero, List.set_cons_succ])))
      (refine Ord.wpOrd_call ?_ (fun K hK => ?_); (focus (go_simp; done)); go_simp)
      (refine hK _ _ (⟨F16.out _ c16, F7.out _ c7⟩) ?_; clear hK K; (try simp only [Act.put, List.setIfInBounds_toArray, List.set_cons_zero, List.set_cons_succ]); repeat (first | (refine Ord.wpOrd_skip ?_ ?_; (focus (go_simp; (try (intro h; cases h)); done)); simp only [Act.put, List.setIfInBounds_toArray, List.set_cons_zero, List.set_cons_succ]) | (refine Ord.wpOrd_take (v := ?_) ?_ ?_ ?_; rotate_left; (focus (go_simp; done)); (focus (intro w' hSw; (try dsimp only at hSw); go_simp; (try with_reducible rfl); done)); simp only [Act.put, List.setIfInBounds_toArray, List.set_cons_zero, List.set_cons_succ])))
      refine Ord.wpOrd_nil ?_
      go_wp2
      refine ⟨⟨t + 1, by omega, by go_num, ?_⟩, by simp only [intOf]; omega⟩
      rw [sched, Hnx.out]
      exact hF.draw.draw.put (W := wr.drew.drew) hlen (by omega) _
      --}
end Go.Proofs.Ytcjabfdjngekfaa.Sha
