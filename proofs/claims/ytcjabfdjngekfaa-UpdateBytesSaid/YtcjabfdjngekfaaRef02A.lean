/- Walks: all constants. -/
import Derived.Test.YtcjabfdjngekfaaRef02R
set_option linter.unusedVariables false
set_option linter.unusedSimpArgs false
namespace Go.Proofs.Ytcjabfdjngekfaa.Sha
open Go.RowKit Go.Proofs.Ytcjabfdjngekfaa.Wd

def rK (t : Nat) : List UInt32 := (List.range t).map fun t => rootW (primes.getD t 0) 3
def rF (t : Nat) : List UInt32 := (List.range t).map fun t => rootW (primes.getD t 0) 2
theorem rK_succ (t : Nat) : rK (t + 1) = rK t ++ [rootW (primes.getD t 0) 3] := by simp [rK, List.range_succ]
theorem rF_succ (t : Nat) : rF (t + 1) = rF t ++ [rootW (primes.getD t 0) 2] := by simp [rF, List.range_succ]
theorem rK_length (t : Nat) : (rK t).length = t := by simp [rK]
theorem rF_length (t : Nat) : (rF t).length = t := by simp [rF]
theorem rK_all : rK 64 = K0 := rootsK
theorem rF_all : rF 8 = F0.list := rootsF
theorem primes_bd (t : Nat) : primes.getD t 0 < 312 := by
  by_cases h : t < primes.length
  · rw [List.getD_eq_getElem?_getD, List.getElem?_eq_getElem h]; exact mem_primes _ (List.getElem_mem h)
  · rw [List.getD_eq_getElem?_getD, List.getElem?_eq_none (by omega)]; simp
theorem root_w (p : Nat) (k : Nat) (hp : p < 4294967296) (hk : k = 2 ∨ k = 3) (w : World) :
    Calls Try.prog 133 #[.int .u64 (p : Int), .int .i64 (k : Int)] w fun e w' => e = .returned (.int .u32 ((rootW p k).toNat : Int)) ∧ w' = w := root_any p k hp hk w
theorem zero72 : Try.zeroCells114 = (part [] 72).toArray := by kernel_rfl
set_option maxRecDepth 100000 in
set_option maxHeartbeats 2000000 in
theorem all_any (w : World) : Calls Try.prog 72 #[] w fun e w' => e = .returned (.agg (ws (K0 ++ F0.list)).toArray) ∧ Below w.heap.size w w' := by
  have H1 := Lib.hid primes_any
  obtain ⟨L, hL⟩ : ∃ L, L = cells64 primes := ⟨_, rfl⟩
  rw [← hL] at H1
  have hsl : L.length = 64 := by rw [hL]; simp only [cells64, List.length_map]; exact primes_64
  have h1c : ∀ v ∈ L, v.oneCell' = true := by rw [hL]; intro v hv; obtain ⟨x, _, rfl⟩ := List.mem_map.1 hv; rfl
  have Hi2 : Hid ((Try.prog.info? 175).map (·.size) = some L.toArray.size) := by show _ = _; rw [List.size_toArray, hsl]; rfl
  have hget : ∀ t, t < 64 → L[t]? = some (.int .u64 ((primes.getD t 0 : Nat) : Int)) := by
    intro t ht
    have : t < primes.length := by rw [show primes.length = 64 from primes_64]; exact ht
    rw [hL]; simp [cells64, List.getD_eq_getElem?_getD, List.getElem?_eq_getElem this]
  have Hth : Hid (∀ W : World, (W.alloc (.cells (npart [] 64).toArray 175)).there W.heap.size 0 L.toArray.size) := by
    show ∀ _, _; intro W; exact there_alloc _ _ _ _ (by rw [List.size_toArray, hsl]; exact Nat.le_refl 64)
  have Hfull : Hid (∀ W : World, ((W.alloc (.cells (npart [] 64).toArray 175)).setCells W.heap.size 0 L).heap[W.heap.size]? = some (.cells L.toArray 175 (0, 0))) := by
    show ∀ _, _; intro W; exact heap_setCells_all _ _ _ _ _ (heap_alloc_new _ _) (by rw [hsl]; rfl)
  have HL := Lib.hid hL
  have Hget := Lib.hid hget
  have Hsl := Lib.hid hsl
  clear hL hget hsl
  go_enter Try.func72, Try.ntmps72
  go_wp2_with (first
    | (go_at_call 132; refine (H1.out _).mono ?_; rintro e w1 ⟨rfl, hb⟩; rw [zero72] at hb)
    | (refine wpList_store_mid rfl _ _ _ rfl w1.heap.size 0 L.toArray rfl rfl (Hth.out _) Hi2.out (all_oneCell_toArray h1c) ?_))
  have q0 : w1.heap[w.heap.size]? = some (.cells (part [] 72).toArray 114 (0, 0)) := blk_below (blk_alloc (heap_alloc_new _ _) _) hb
  have q1 : w1.heap[w.heap.size + 1]? = some (.cells (part [] 72).toArray 114 (0, 0)) := blk_below (by have := heap_alloc_new (w.alloc (.cells (part [] 72).toArray 114)) (.cells (part [] 72).toArray 114); rw [alloc_size] at this; exact this) hb
  have hz1 : w.heap.size + 2 ≤ w1.heap.size := by have := hb.size; rw [alloc_size, alloc_size] at this; omega
  have hB1 : Below w.heap.size w w1 := (((Below.refl _ _).alloc (Nat.le_refl _) _).alloc (by rw [alloc_size]; omega) _).trans (hb.mono (by rw [alloc_size, alloc_size]; omega))
  have hg : w1.grownBy ((w1.alloc (.cells (npart [] 64).toArray 175)).setCells w1.heap.size 0 L) (some w1.heap.size) := (grown_below ((Below.refl _ _).alloc (Nat.le_refl _) _) _).trans (grown_cells _ _ _ _)
  go_loopw [3] (fun vi wr => ∃ t : Nat, t ≤ 64 ∧ vi = .int .i64 t ∧ wr.heap[w.heap.size]? = some (.cells (part [] 72).toArray 114 (0, 0)) ∧ wr.heap[w.heap.size + 1]? = some (.cells (part (rK t) 72).toArray 114 (0, 0)) ∧ wr.heap[w1.heap.size]? = some (.cells L.toArray 175 (0, 0)) ∧ Below w.heap.size w wr) (fun vi _ => 64 - (intOf vi).toNat)
  case atStart => exact ⟨0, by omega, rfl, blk_grown q0 hg (by intro e; injection e with e; omega), blk_grown q1 hg (by intro e; injection e with e; omega), Hfull.out w1, hB1.grown hg hB1.size (fun k hk => by injection hk with hk; omega)⟩
  case round =>
    clear q0 q1 hB1 hg hb
    obtain ⟨t, ht, rfl, h0, h1, h2, hB⟩ := hrel
    have G0 := Lib.hid h0
    have G1 := Lib.hid h1
    have G2 := Lib.hid h2
    clear h0 h1 h2
    by_cases h64 : t < 64
    · have c1 : wr.cell? ⟨w1.heap.size, t, none⟩ = some (.int .u64 ((primes.getD t 0 : Nat) : Int)) := by rw [blk_cell G2.out t]; simp only [List.getElem?_toArray]; exact Hget.out t h64
      have hp := primes_bd t
      obtain ⟨p, hpp⟩ : ∃ p, p = primes.getD t 0 := ⟨_, rfl⟩
      rw [← hpp] at c1 hp
      have Hr := Lib.hid (root_w p 3 (by omega) (.inr rfl))
      have hcell : ∃ v, wr.cell? ⟨w.heap.size + 1, t, none⟩ = some v := by
        rw [blk_cell G1.out t]
        simp only [List.getElem?_toArray]
        exact ⟨_, List.getElem?_eq_getElem (by rw [part_length _ _ (by rw [rK_length]; omega)]; omega)⟩
      obtain ⟨v0, hv0⟩ := hcell
      have hvf := blk_frozen G1.out t
      have ht1 : (t : Int) < 64 := by omega
      have Hpp := Lib.hid hpp
      clear hpp
      go_wp2_with (go_at_call 133; go_must (refine (Hr.out _).mono ?_); rintro e w2 ⟨rfl, rfl⟩)
      refine ⟨⟨t + 1, by omega, by go_num, blk_far G0.out (by simp) _, ?_, blk_far G2.out (by simp only; omega) _, hB.setCell (by simp) _⟩, by simp only [intOf]; omega⟩
      rw [rK_succ, ← Hpp.out]
      exact part_put G1.out (rK_length t) (by omega) _
    · obtain rfl : t = 64 := by omega
      rw [rK_all] at G1
      have hd1 : decide ((64 : Int) < 64) = false := by decide
      clear h64 ht
      simp only [Int.cast_ofNat_Int]
      obtain ⟨wo, rfl⟩ : ∃ wo : World, wo = wr := ⟨_, rfl⟩
      go_wp2_with fail
      go_loopw [4] (fun vi wr => ∃ t : Nat, t ≤ 8 ∧ vi = .int .i64 t ∧ wr.heap[w.heap.size]? = some (.cells (part [] 72).toArray 114 (0, 0)) ∧ wr.heap[w.heap.size + 1]? = some (.cells (part (K0 ++ rF t) 72).toArray 114 (0, 0)) ∧ wr.heap[w1.heap.size]? = some (.cells L.toArray 175 (0, 0)) ∧ Below w.heap.size w wr) (fun vi _ => 8 - (intOf vi).toNat)
      case atStart => exact ⟨0, by omega, rfl, G0.out, by simpa [rF] using G1.out, G2.out, hB⟩
      case round =>
        clear G0 G1 G2 hB
        obtain ⟨t, ht, rfl, h0, h1, h2, hB⟩ := hrel
        have G0 := Lib.hid h0
        have G1 := Lib.hid h1
        have G2 := Lib.hid h2
        clear h0 h1 h2
        by_cases h8 : t < 8
        · have c1 : wr.cell? ⟨w1.heap.size, t, none⟩ = some (.int .u64 ((primes.getD t 0 : Nat) : Int)) := by rw [blk_cell G2.out t]; simp only [List.getElem?_toArray]; exact Hget.out t (by omega)
          have hp := primes_bd t
          obtain ⟨p, hpp⟩ : ∃ p, p = primes.getD t 0 := ⟨_, rfl⟩
          rw [← hpp] at c1 hp
          have Hr := Lib.hid (root_w p 2 (by omega) (.inl rfl))
          have hlen : (K0 ++ rF t).length = 64 + t := by rw [List.length_append, rF_length, K0_length]
          have hcell : ∃ v, wr.cell? ⟨w.heap.size + 1, 64 + t, none⟩ = some v := by
            rw [blk_cell G1.out (64 + t)]
            simp only [List.getElem?_toArray]
            exact ⟨_, List.getElem?_eq_getElem (by rw [part_length _ _ (by rw [hlen]; omega)]; omega)⟩
          obtain ⟨v0, hv0⟩ := hcell
          have hvf := blk_frozen G1.out (64 + t)
          have ht1 : (t : Int) < 8 := by omega
          have ht2 : (t : Int) < 64 := by omega
          have Hpp := Lib.hid hpp
          have Hlen := Lib.hid hlen
          clear hpp hlen
          go_wp2_with (go_at_call 133; go_must (refine (Hr.out _).mono ?_); rintro e w2 ⟨rfl, rfl⟩)
          refine ⟨⟨t + 1, by omega, by go_num, blk_far G0.out (by simp) _, ?_, blk_far G2.out (by simp only; omega) _, hB.setCell (by simp) _⟩, by simp only [intOf]; omega⟩
          rw [rF_succ, ← Hpp.out, ← List.append_assoc]
          exact part_put G1.out Hlen.out (by omega) _
        · obtain rfl : t = 8 := by omega
          have hfl : (K0 ++ F0.list).length = 72 := rfl
          rw [rF_all, part_full _ _ hfl] at G1
          obtain ⟨R, hR⟩ : ∃ R, R = ws (K0 ++ F0.list) := ⟨_, rfl⟩
          have hrl : R.length = 72 := by rw [hR, ws_length, hfl]
          rw [← hR] at G1
          have hr1c : ∀ v ∈ R, v.oneCell' = true := by rw [hR]; intro v hv; obtain ⟨x, _, rfl⟩ := List.mem_map.1 hv; rfl
          have hr : wr.rangeAt (w.heap.size + 1) 0 R := fun j v hv => by rw [Nat.zero_add, blk_cell G1.out j]; simpa using hv
          have hth : wr.there w.heap.size 0 R.toArray.size := fun j hj => by
            rw [Nat.zero_add, blk_cell G0.out j]
            rw [List.size_toArray, hrl] at hj
            have hnl : (part [] 72).length = 72 := rfl
            simp only [List.getElem?_toArray]
            rw [List.getElem?_eq_getElem (by omega)]
            exact ⟨rfl, blk_frozen G0.out j⟩
          have hi : (Try.prog.info? 114).map (·.size) = some R.length := by rw [hrl]; rfl
          have hi2 : (Try.prog.info? 114).map (·.size) = some R.toArray.size := by rw [hi, List.size_toArray]
          have hr2 : (wr.setCells w.heap.size 0 R).rangeAt w.heap.size 0 R := World.rangeAt_setCells_same _ _ _ _ (by simpa using hth)
          have HR := Lib.hid hR
          have Hi := Lib.hid hi
          have Hi3 := Lib.hid hi2
          have Hr := Lib.hid hr
          have Hth3 := Lib.hid hth
          have Hr2 := Lib.hid hr2
          clear hi hi2 hr hth hr2 hR hfl hrl
          go_wp2_with (first
            | (refine wpList_load_mid rfl _ _ rfl (w.heap.size + 1) 0 rfl R _ Hr.out Try.underlying114 rfl Hi.out ?_)
            | (refine wpList_store_mid rfl _ _ _ rfl w.heap.size 0 R.toArray rfl rfl Hth3.out Hi3.out (all_oneCell_toArray hr1c) ?_))
          refine bodyPost_ret (v := .agg R.toArray) (results_cell_mid rfl _ _ w.heap.size R _ rfl Hr2.out Try.underlying114 rfl Hi.out) rfl ⟨?_, ?_⟩
          · rw [HR.out]
          · exact below_cells (Nat.le_refl _) _ _ _ hB
end Go.Proofs.Ytcjabfdjngekfaa.Sha
