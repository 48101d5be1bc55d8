/- The words of the rounds. -/
import Derived.Test.YtpldkplfdbjidaaShaMem
import Derived.Test.YtpldkplfdbjidaaOrd
set_option linter.unusedVariables false
set_option linter.unusedSimpArgs false
namespace Go.Proofs.Ytpldkplfdbjidaa.Sha
open Go.RowKit Go.Proofs.Ytpldkplfdbjidaa.Wd

set_option maxRecDepth 100000 in
set_option maxHeartbeats 2000000 in
theorem words_any (g : Nat) (h : Hs) (w : World) (H : HashAt w g h) :
    Calls Try.prog 187 #[.pointer (some ⟨g, 0, none⟩)] w fun e w' => e = .returned (.agg (ws (sched h.buf 64)).toArray) ∧ Below w.heap.size w w' := by
  have Hh := H
  go_enter Try.func187, Try.ntmps187
  go_wp2_with fail
  go_loopw [7, 3] (fun i v wr => ∃ t : Nat, t ≤ 64 ∧ i = .int .i64 t ∧ wr.heap[w.heap.size]? = some (.cells (part (sched h.buf t) 64).toArray 200 (0, 0)) ∧ Below w.heap.size w wr) (fun i _ _ => 64 - (intOf i).toNat)
  case atStart => exact ⟨0, Nat.zero_le _, rfl, heap_alloc_new _ _, (Below.refl _ _).alloc (Nat.le_refl _) _⟩
  case round =>
    obtain ⟨t, ht, rfl, hw, hB⟩ := hrel
    have H1 := H.below hB
    by_cases h16 : t < 16
    · skip
      obtain ⟨q, hq⟩ : ∃ q, q = 4 * t := ⟨_, rfl⟩
      have hq1 : IntKind.i64.wrap (4 * (t : Int)) = (q : Int) := by rw [IntKind.wrap_i64]; omega
      obtain ⟨q4, hq4⟩ : ∃ q4, q4 = q + 4 := ⟨_, rfl⟩
      have hq2 : IntKind.i64.wrap ((q : Int) + 4) = (q4 : Int) := by rw [IntKind.wrap_i64]; omega
      have hq5 : (q : Int) ≤ (q4 : Int) := by omega
      have hq6 : (q4 : Int) ≤ 64 := by omega
      have hq7 : q4 - q = 4 := by omega
      have hq8 : ¬ 64 = q := by omega
      have hq9 : (0 : Int) ≤ (q : Int) := by omega
      have hq3 : q ≤ 60 := by omega
      have hlen := sched_length h.buf t
      have hpl := part_length (sched h.buf t) 64 (by omega)
      have hnx : nextW h.buf (sched h.buf t) t = be32 (gb h.buf q) (gb h.buf (q + 1)) (gb h.buf (q + 2)) (gb h.buf (q + 3)) := by rw [nextW, if_pos h16, hq]
      have hc0 := H1.b q (by omega)
      have hc1 := H1.b (q + 1) (by omega)
      have hc2 := H1.b (q + 2) (by omega)
      have hc3 := H1.b (q + 3) (by omega)
      have e8 : ∀ c : UInt8, (c.toNat : Int) = ((w8 c).toNat : Int) := by intro c; simp [w8]
      have b8 : ∀ c : UInt8, (w8 c).toNat < 256 := by intro c; have := c.toNat_lt; simp [w8]; omega
      rw [e8] at hc0 hc1 hc2 hc3
      have b0 := b8 (gb h.buf q)
      have b1 := b8 (gb h.buf (q + 1))
      have b2 := b8 (gb h.buf (q + 2))
      have b3 := b8 (gb h.buf (q + 3))
      rw [be32] at hnx
      obtain ⟨x0, hx0⟩ : ∃ x, x = w8 (gb h.buf q) := ⟨_, rfl⟩
      obtain ⟨x1, hx1⟩ : ∃ x, x = w8 (gb h.buf (q + 1)) := ⟨_, rfl⟩
      obtain ⟨x2, hx2⟩ : ∃ x, x = w8 (gb h.buf (q + 2)) := ⟨_, rfl⟩
      obtain ⟨x3, hx3⟩ : ∃ x, x = w8 (gb h.buf (q + 3)) := ⟨_, rfl⟩
      rw [← hx0] at hc0 b0 hnx
      rw [← hx1] at hc1 b1 hnx
      rw [← hx2] at hc2 b2 hnx
      rw [← hx3] at hc3 b3 hnx
      rw [← Nat.add_assoc] at hc1 hc2 hc3
      have Hnx := Lib.hid hnx
      clear hx0 hx1 hx2 hx3 e8 b8 hq hnx hq4
      have hid : ∀ x : UInt32, IntKind.u32.wrap (x.toNat : Int) = (x.toNat : Int) := by intro x; have := x.toNat_lt; rw [IntKind.wrap_u32]; omega
      have s24 : (x0.toNat : Int) * 16777216 = ((wshl x0 24).toNat : Int) := by rw [← W_shl x0 24 (by omega), IntKind.wrap_u32]; omega
      have s16 : (x1.toNat : Int) * 65536 = ((wshl x1 16).toNat : Int) := by rw [← W_shl x1 16 (by omega), IntKind.wrap_u32]; omega
      have s8 : (x2.toNat : Int) * 256 = ((wshl x2 8).toNat : Int) := by rw [← W_shl x2 8 (by omega), IntKind.wrap_u32]; omega
      have o1 := W_or (wshl x0 24) (wshl x1 16)
      have o2 := W_or (wor (wshl x0 24) (wshl x1 16)) (wshl x2 8)
      have o3 := W_or (wor (wor (wshl x0 24) (wshl x1 16)) (wshl x2 8)) x3
      have ht1 : (0 : Int) ≤ (t : Int) := by omega
      have ht2 : (t : Int) < 64 := by omega
      have hcell : ∃ v, wr.cell? ⟨w.heap.size, t, none⟩ = some v := by
        rw [blk_cell hw t]
        simp only [List.getElem?_toArray]
        exact ⟨_, List.getElem?_eq_getElem (by omega)⟩
      obtain ⟨v0, hv0⟩ := hcell
      have hvf := blk_frozen hw t
      go_wp2_with fail
      (refine Ord.wp_region_ord [(false, 0), (false, 1), (false, 2), (false, 3), (false, 4), (false, 5), (false, 6), (false, 7), (false, 8), (false, 9), (false, 10), (false, 11), (false, 12), (false, 13), (false, 14), (false, 15), (false, 16), (false, 17), (false, 18), (false, 19), (false, 20), (false, 21), (false, 22), (false, 23), (true, 24)] (fun w' => w'.cell? ⟨g, 73 + q, none⟩ = some (.int .u8 (x0.toNat : Int)) ∧ w'.cell? ⟨g, 73 + q + 1, none⟩ = some (.int .u8 (x1.toNat : Int)) ∧ w'.cell? ⟨g, 73 + q + 2, none⟩ = some (.int .u8 (x2.toNat : Int)) ∧ w'.cell? ⟨g, 73 + q + 3, none⟩ = some (.int .u8 (x3.toNat : Int))) (by kernel_rfl) (by kernel_rfl) (by kernel_rfl) (by kernel_rfl) (by exact ⟨hc0, hc1, hc2, hc3⟩) ?_; simp only [Ord.ordOps, List.filterMap_cons, List.filterMap_nil, List.getElem?_toArray, List.getElem?_cons_succ, List.getElem?_cons_zero, Option.map_some]; repeat (first | (refine Ord.wpOrd_skip ?_ ?_; (focus (go_simp; (try (intro h; cases h)); done)); simp only [Act.put, List.setIfInBounds_toArray, List.set_cons_zero, List.set_cons_succ]) | (refine Ord.wpOrd_take (v := ?_) ?_ ?_ ?_; rotate_left; (focus (go_simp; done)); (focus (intro w' hSw; (try dsimp only at hSw); go_simp; (try with_reducible rfl); done)); simp only [Act.put, List.setIfInBounds_toArray, List.set_cons_zero, List.set_cons_succ])))
      (refine Ord.wpOrd_call ?_ (fun K hK => ?_); (focus (go_simp; done)); go_simp)
      have hgl := H.lt
      have hfar : ∀ (i : Nat) (u v : Value), wr.cell? ⟨g, i, none⟩ = some u → ((wr.drew).setCell ⟨w.heap.size, t, none⟩ v).cell? ⟨g, i, none⟩ = some u := by
        intro i u v hu
        rw [World.cell?_setCell_far _ _ _ _ (by simp only; omega)]
        exact hu
      (refine hK _ _ (⟨hfar _ _ _ hc0, hfar _ _ _ hc1, hfar _ _ _ hc2, hfar _ _ _ hc3⟩) ?_; clear hK K; (try simp only [Act.put, List.setIfInBounds_toArray, List.set_cons_zero, List.set_cons_succ]); repeat (first | (refine Ord.wpOrd_skip ?_ ?_; (focus (go_simp; (try (intro h; cases h)); done)); simp only [Act.put, List.setIfInBounds_toArray, List.set_cons_zero, List.set_cons_succ]) | (refine Ord.wpOrd_take (v := ?_) ?_ ?_ ?_; rotate_left; (focus (go_simp; done)); (focus (intro w' hSw; (try dsimp only at hSw); go_simp; (try with_reducible rfl); done)); simp only [Act.put, List.setIfInBounds_toArray, List.set_cons_zero, List.set_cons_succ])))
      refine Ord.wpOrd_nil ?_
      go_wp2
      refine ⟨⟨t + 1, by omega, by go_num, ?_, hB.drew.setCell (Nat.le_refl _) _⟩, by simp only [intOf]; omega⟩
      rw [sched, Hnx.out]
      exact part_put (w := wr) hw hlen (by omega) _
    by_cases h64 : t = 64
    · subst h64
      have hpf := part_full (sched h.buf 64) 64 (sched_length _ _)
      rw [hpf] at hw
      have hsl : (ws (sched h.buf 64)).length = 64 := by rw [ws_length, sched_length]
      obtain ⟨L, hL⟩ : ∃ L, L = ws (sched h.buf 64) := ⟨_, rfl⟩
      have h1c : ∀ v ∈ L, v.oneCell' = true := by
        rw [hL]; intro v hv; obtain ⟨x, _, rfl⟩ := List.mem_map.1 hv; rfl
      rw [← hL] at hw hsl
      have HL := Lib.hid hL
      have hi : (Try.prog.info? 200).map (·.size) = some L.length := by rw [hsl]; rfl
      have hr : wr.rangeAt w.heap.size 0 L := fun j v hv => by rw [Nat.zero_add, blk_cell hw j]; simpa using hv
      have hth : wr.there w.heap.size 0 L.toArray.size := fun j hj => by
        rw [Nat.zero_add, blk_cell hw j]
        simp only [List.size_toArray] at hj
        simp only [List.getElem?_toArray, List.getElem?_eq_getElem hj]
        exact ⟨rfl, blk_frozen hw j⟩
      have hi2 : (Try.prog.info? 200).map (·.size) = some L.toArray.size := by rw [hi, List.size_toArray]
      have hr2 : (wr.setCells w.heap.size 0 L).rangeAt w.heap.size 0 L := World.rangeAt_setCells_same _ _ _ _ (by simpa using hth)
      have Hi := Lib.hid hi
      have Hi2 := Lib.hid hi2
      have Hr := Lib.hid hr
      have Hth := Lib.hid hth
      have Hr2 := Lib.hid hr2
      clear hi hi2 hr hth hr2 hL hpf
      go_wp2_with (first
        | (refine wpList_load_mid rfl _ _ rfl w.heap.size 0 rfl L _ Hr.out Try.underlying200 rfl Hi.out ?_)
        | (refine wpList_store_mid rfl _ _ _ rfl w.heap.size 0 L.toArray rfl rfl Hth.out Hi2.out (all_oneCell_toArray h1c) ?_))
      refine bodyPost_ret (v := .agg L.toArray) (results_cell_mid rfl _ _ w.heap.size L _ rfl Hr2.out Try.underlying200 rfl Hi.out) rfl ⟨by rw [HL.out], ?_⟩
      exact below_cells (Nat.le_refl _) _ _ _ hB
    · have hlen := sched_length h.buf t
      have hpl := part_length (sched h.buf t) 64 (by omega)
      obtain ⟨t15, ht15⟩ : ∃ x, x = t - 15 := ⟨_, rfl⟩
      obtain ⟨t2, ht2⟩ : ∃ x, x = t - 2 := ⟨_, rfl⟩
      obtain ⟨t16, ht16⟩ : ∃ x, x = t - 16 := ⟨_, rfl⟩
      obtain ⟨t7, ht7⟩ : ∃ x, x = t - 7 := ⟨_, rfl⟩
      have w15 : IntKind.i64.wrap ((t : Int) - 15) = (t15 : Int) := by rw [IntKind.wrap_i64]; omega
      have w2 : IntKind.i64.wrap ((t : Int) - 2) = (t2 : Int) := by rw [IntKind.wrap_i64]; omega
      have w16 : IntKind.i64.wrap ((t : Int) - 16) = (t16 : Int) := by rw [IntKind.wrap_i64]; omega
      have w7 : IntKind.i64.wrap ((t : Int) - 7) = (t7 : Int) := by rw [IntKind.wrap_i64]; omega
      have v15 : (t : Int) - 15 = (t15 : Int) := by omega
      have v2 : (t : Int) - 2 = (t2 : Int) := by omega
      have v16 : (t : Int) - 16 = (t16 : Int) := by omega
      have v7 : (t : Int) - 7 = (t7 : Int) := by omega
      have u15 : IntKind.i64.wrap (t15 : Int) = (t15 : Int) := by rw [IntKind.wrap_i64]; omega
      have u2 : IntKind.i64.wrap (t2 : Int) = (t2 : Int) := by rw [IntKind.wrap_i64]; omega
      have u16 : IntKind.i64.wrap (t16 : Int) = (t16 : Int) := by rw [IntKind.wrap_i64]; omega
      have u7 : IntKind.i64.wrap (t7 : Int) = (t7 : Int) := by rw [IntKind.wrap_i64]; omega
      have hnx : nextW h.buf (sched h.buf t) t = wadd (wadd (wadd (gw (sched h.buf t) t16) (s0 (gw (sched h.buf t) t15))) (gw (sched h.buf t) t7)) (s1 (gw (sched h.buf t) t2)) := by rw [nextW, if_neg h16, ht15, ht2, ht16, ht7]
      have hge : ∀ i, i < t → wr.cell? ⟨w.heap.size, i, none⟩ = some (W (gw (sched h.buf t) i)) := by
        intro i hi
        rw [blk_cell hw i]
        simp only [List.getElem?_toArray]
        exact part_get _ _ _ (by omega)
      have c15 := hge t15 (by omega)
      have c2 := hge t2 (by omega)
      have c16 := hge t16 (by omega)
      have c7 := hge t7 (by omega)
      obtain ⟨x, hx⟩ : ∃ x, x = gw (sched h.buf t) t15 := ⟨_, rfl⟩
      obtain ⟨y, hy⟩ : ∃ x, x = gw (sched h.buf t) t2 := ⟨_, rfl⟩
      obtain ⟨a, ha⟩ : ∃ x, x = gw (sched h.buf t) t16 := ⟨_, rfl⟩
      obtain ⟨b, hb⟩ : ∃ x, x = gw (sched h.buf t) t7 := ⟨_, rfl⟩
      rw [← hx] at c15 hnx
      rw [← hy] at c2 hnx
      rw [← ha] at c16 hnx
      rw [← hb] at c7 hnx
      have Hnx := Lib.hid hnx
      have b15 : (t15 : Int) < 64 := by omega
      have b2 : (t2 : Int) < 64 := by omega
      have b16 : (t16 : Int) < 64 := by omega
      have b7 : (t7 : Int) < 64 := by omega
      have bt : (t : Int) < 64 := by omega
      have hcell : ∃ v, wr.cell? ⟨w.heap.size, t, none⟩ = some v := by
        rw [blk_cell hw t]
        simp only [List.getElem?_toArray]
        exact ⟨_, List.getElem?_eq_getElem (by omega)⟩
      obtain ⟨v0, hv0⟩ := hcell
      have hvf := blk_frozen hw t
      have hgl := H.lt
      clear hx hy ha hb hnx hge ht15 ht2 ht16 ht7
      unfold W at c15 c2 c16 c7
      have ra := W_add
      have ram := W_addm
      have rx := W_xor
      have r3 : (x.toNat : Int) / 8 = ((wshr x 3).toNat : Int) := W_shr x 3 (by omega)
      have r10 : (y.toNat : Int) / 1024 = ((wshr y 10).toNat : Int) := W_shr y 10 (by omega)
      go_wp2_with fail
      (refine Ord.wp_region_ord [(false, 0), (false, 1), (false, 2), (false, 3), (false, 4), (false, 5), (false, 6), (false, 7), (false, 8), (false, 9)] (fun w' => w'.cell? ⟨w.heap.size, t15, none⟩ = some (.int .u32 (x.toNat : Int)) ∧ w'.cell? ⟨w.heap.size, t2, none⟩ = some (.int .u32 (y.toNat : Int))) (by kernel_rfl) (by kernel_rfl) (by kernel_rfl) (by kernel_rfl) (by exact ⟨c15, c2⟩) ?_; simp only [Ord.ordOps, List.filterMap_cons, List.filterMap_nil, List.getElem?_toArray, List.getElem?_cons_succ, List.getElem?_cons_zero, Option.map_some]; repeat (first | (refine Ord.wpOrd_skip ?_ ?_; (focus (go_simp; (try (intro h; cases h)); done)); simp only [Act.put, List.setIfInBounds_toArray, List.set_cons_zero, List.set_cons_succ]) | (refine Ord.wpOrd_take (v := ?_) ?_ ?_ ?_; rotate_left; (focus (go_simp; done)); (focus (intro w' hSw; (try dsimp only at hSw); go_simp; (try with_reducible rfl); done)); simp only [Act.put, List.setIfInBounds_toArray, List.set_cons_zero, List.set_cons_succ])))
      refine Ord.wpOrd_nil ?_
      go_wp2_with fail
      (refine Ord.wp_region_ord [(false, 0), (false, 1), (false, 2), (false, 3), (false, 4), (false, 5), (false, 7), (false, 10), (false, 11), (false, 14), (false, 15), (false, 16), (false, 17), (false, 19), (false, 21), (false, 24), (false, 25), (true, 6), (true, 8), (false, 9), (false, 12), (false, 13), (false, 18), (true, 20), (true, 22), (false, 23), (false, 26), (false, 27), (false, 28), (true, 29)] (fun w' => w'.cell? ⟨w.heap.size, t16, none⟩ = some (.int .u32 (a.toNat : Int)) ∧ w'.cell? ⟨w.heap.size, t7, none⟩ = some (.int .u32 (b.toNat : Int))) (by kernel_rfl) (by kernel_rfl) (by kernel_rfl) (by kernel_rfl) (by exact ⟨c16, c7⟩) ?_; simp only [Ord.ordOps, List.filterMap_cons, List.filterMap_nil, List.getElem?_toArray, List.getElem?_cons_succ, List.getElem?_cons_zero, Option.map_some]; repeat (first | (refine Ord.wpOrd_skip ?_ ?_; (focus (go_simp; (try (intro h; cases h)); done)); simp only [Act.put, List.setIfInBounds_toArray, List.set_cons_zero, List.set_cons_succ]) | (refine Ord.wpOrd_take (v := ?_) ?_ ?_ ?_; rotate_left; (focus (go_simp; done)); (focus (intro w' hSw; (try dsimp only at hSw); go_simp; (try with_reducible rfl); done)); simp only [Act.put, List.setIfInBounds_toArray, List.set_cons_zero, List.set_cons_succ])))
      (refine Ord.wpOrd_call ?_ (fun K hK => ?_); (focus (go_simp; done)); go_simp)
      go_at_call 188
      refine (turn_w x 7 (by omega) (by omega) _).mono ?_
      rintro e w3 ⟨rfl, rfl⟩
      (refine hK _ _ (by exact ⟨c16, c7⟩) ?_; clear hK K; (try simp only [Act.put, List.setIfInBounds_toArray, List.set_cons_zero, List.set_cons_succ]); repeat (first | (refine Ord.wpOrd_skip ?_ ?_; (focus (go_simp; (try (intro h; cases h)); done)); simp only [Act.put, List.setIfInBounds_toArray, List.set_cons_zero, List.set_cons_succ]) | (refine Ord.wpOrd_take (v := ?_) ?_ ?_ ?_; rotate_left; (focus (go_simp; done)); (focus (intro w' hSw; (try dsimp only at hSw); go_simp; (try with_reducible rfl); done)); simp only [Act.put, List.setIfInBounds_toArray, List.set_cons_zero, List.set_cons_succ])))
      (refine Ord.wpOrd_call ?_ (fun K hK => ?_); (focus (go_simp; done)); go_simp)
      go_at_call 188
      refine (turn_w x 18 (by omega) (by omega) _).mono ?_
      rintro e w3 ⟨rfl, rfl⟩
      (refine hK _ _ (by exact ⟨c16, c7⟩) ?_; clear hK K; (try simp only [Act.put, List.setIfInBounds_toArray, List.set_cons_zero, List.set_cons_succ]); repeat (first | (refine Ord.wpOrd_skip ?_ ?_; (focus (go_simp; (try (intro h; cases h)); done)); simp only [Act.put, List.setIfInBounds_toArray, List.set_cons_zero, List.set_cons_succ]) | (refine Ord.wpOrd_take (v := ?_) ?_ ?_ ?_; rotate_left; (focus (go_simp; done)); (focus (intro w' hSw; (try dsimp only at hSw); go_simp; (try with_reducible rfl); done)); simp only [Act.put, List.setIfInBounds_toArray, List.set_cons_zero, List.set_cons_succ])))
      (refine Ord.wpOrd_call ?_ (fun K hK => ?_); (focus (go_simp; done)); go_simp)
      go_at_call 188
      refine (turn_w y 17 (by omega) (by omega) _).mono ?_
      rintro e w3 ⟨rfl, rfl⟩
      (refine hK _ _ (by exact ⟨c16, c7⟩) ?_; clear hK K; (try simp only [Act.put, List.setIfInBounds_toArray, List.set_cons_zero, List.set_cons_succ]); repeat (first | (refine Ord.wpOrd_skip ?_ ?_; (focus (go_simp; (try (intro h; cases h)); done)); simp only [Act.put, List.setIfInBounds_toArray, List.set_cons_zero, List.set_cons_succ]) | (refine Ord.wpOrd_take (v := ?_) ?_ ?_ ?_; rotate_left; (focus (go_simp; done)); (focus (intro w' hSw; (try dsimp only at hSw); go_simp; (try with_reducible rfl); done)); simp only [Act.put, List.setIfInBounds_toArray, List.set_cons_zero, List.set_cons_succ])))
      (refine Ord.wpOrd_call ?_ (fun K hK => ?_); (focus (go_simp; done)); go_simp)
      go_at_call 188
      refine (turn_w y 19 (by omega) (by omega) _).mono ?_
      rintro e w3 ⟨rfl, rfl⟩
      (refine hK _ _ (by exact ⟨c16, c7⟩) ?_; clear hK K; (try simp only [Act.put, List.setIfInBounds_toArray, List.set_cons_zero, List.set_cons_succ]); repeat (first | (refine Ord.wpOrd_skip ?_ ?_; (focus (go_simp; (try (intro h; cases h)); done)); simp only [Act.put, List.setIfInBounds_toArray, List.set_cons_zero, List.set_cons_succ]) | (refine Ord.wpOrd_take (v := ?_) ?_ ?_ ?_; rotate_left; (focus (go_simp; done)); (focus (intro w' hSw; (try dsimp only at hSw); go_simp; (try with_reducible rfl); done)); simp only [Act.put, List.setIfInBounds_toArray, List.set_cons_zero, List.set_cons_succ])))
      (refine Ord.wpOrd_call ?_ (fun K hK => ?_); (focus (go_simp; done)); go_simp)
      have hfar : ∀ (i : Nat) (u v : Value), i ≠ t → wr.cell? ⟨w.heap.size, i, none⟩ = some u → ((wr.setCell ⟨w.heap.size, t, none⟩ v).drew.drew).cell? ⟨w.heap.size, i, none⟩ = some u := by
        intro i u v hi hu
        have := blk_cell (blk_set hw t v) i
        rw [blk_cell hw i] at hu
        show (wr.setCell ⟨w.heap.size, t, none⟩ v).cell? _ = _
        rw [this, Array.getElem?_setIfInBounds_ne (by omega)]
        exact hu
      (refine hK _ _ (⟨hfar _ _ _ (by omega) c16, hfar _ _ _ (by omega) c7⟩) ?_; clear hK K; (try simp only [Act.put, List.setIfInBounds_toArray, List.set_cons_zero, List.set_cons_succ]); repeat (first | (refine Ord.wpOrd_skip ?_ ?_; (focus (go_simp; (try (intro h; cases h)); done)); simp only [Act.put, List.setIfInBounds_toArray, List.set_cons_zero, List.set_cons_succ]) | (refine Ord.wpOrd_take (v := ?_) ?_ ?_ ?_; rotate_left; (focus (go_simp; done)); (focus (intro w' hSw; (try dsimp only at hSw); go_simp; (try with_reducible rfl); done)); simp only [Act.put, List.setIfInBounds_toArray, List.set_cons_zero, List.set_cons_succ])))
      refine Ord.wpOrd_nil ?_
      go_wp2
      refine ⟨⟨t + 1, by omega, by go_num, ?_, (hB.setCell (Nat.le_refl _) _).drew.drew⟩, by simp only [intOf]; omega⟩
      rw [sched, Hnx.out]
      exact part_put (w := wr) hw hlen (by omega) _
end Go.Proofs.Ytpldkplfdbjidaa.Sha
