/- Walks: roots, primes. -/
import Derived.Test.YtcjabfdjngekfaaRef02W
set_option linter.unusedVariables false
set_option linter.unusedSimpArgs false
namespace Go.Proofs.Ytcjabfdjngekfaa.Sha
open Go.RowKit Go.Proofs.Ytcjabfdjngekfaa.Wd

set_option maxRecDepth 100000 in
set_option maxHeartbeats 1000000 in
theorem root_any (p : Nat) (k : Nat) (hp : p < 4294967296) (hk : k = 2 ∨ k = 3) (w : World) :
    Calls Try.prog 133 #[.int .u64 (p : Int), .int .i64 (k : Int)] w fun e w' => e = .returned (W (rootW p k)) ∧ w' = w := by
  unfold W
  go_enter Try.func133, Try.ntmps133
  go_wp2_with fail
  go_loop [5, 6] (fun vx vb => ∃ j : Nat, j ≤ 37 ∧ vb = .int .i64 (36 - (j : Int)) ∧ vx = .int .u64 (rootK p k j : Int)) (fun _ vb => (intOf vb + 1).toNat)
  case atStart => exact ⟨0, by omega, rfl, rfl⟩
  case round =>
    obtain ⟨j, hj, rfl, rfl⟩ := hrel
    have hle := rootK_le p k j hj
    by_cases h37 : j < 37
    · obtain ⟨c, hc⟩ : ∃ c : Nat, c = 2 ^ (36 - j) := ⟨_, rfl⟩
      have e : 2 ^ (37 - j) = 2 ^ (36 - j) + 2 ^ (36 - j) := by rw [show 37 - j = (36 - j) + 1 by omega, Nat.pow_succ]; omega
      rw [e, ← hc] at hle
      have hs := show rootK p k (j + 1) = if belowN (rootK p k j + c) p k then rootK p k j + c else rootK p k j by rw [hc]; rfl
      obtain ⟨x, hx⟩ : ∃ x, x = rootK p k j := ⟨_, rfl⟩
      rw [← hx] at hs hle ⊢
      have hc1 : (2 : Int) ^ (36 - j) = (c : Int) := by rw [hc, Int.natCast_pow]; rfl
      have hcc : c ≤ 68719476736 := by rw [hc]; exact Nat.pow_le_pow_right (by omega) (show 36 - j ≤ 36 by omega)
      obtain ⟨y, hy⟩ : ∃ y, y = x + c := ⟨_, rfl⟩
      have hw1 : IntKind.u64.wrap ((x : Int) + (c : Int)) = (y : Int) := by rw [IntKind.wrap_u64]; omega
      have hw2 : (x : Int) + (c : Int) = (y : Int) := by omega
      have hy2 : y < 18446744073709551616 := by omega
      rw [← hy] at hs
      have Hb := Lib.hid (below_any y p k hy2 hp hk)
      have Hs := Lib.hid hs
      have Hx := Lib.hid hx
      clear hs hx e hc hle hy
      cases hbel : belowN y p k
      all_goals
        rw [hbel] at Hb
        have Hbel := Lib.hid hbel
        clear hbel
        go_wp2_with (go_at_call 164; go_must (refine (Hb.out _).mono ?_); rintro e w1 ⟨rfl, rfl⟩)
        refine ⟨⟨j + 1, by omega, by congr 1; omega, ?_⟩, by simp only [intOf]; omega⟩
        rw [Hs.out, Hbel.out]
        simp [Hx.out]
    · obtain rfl : j = 37 := by omega
      have hx37 : rootK p k 37 < 2 ^ 37 + 1 := by omega
      obtain ⟨x, hx⟩ : ∃ x, x = rootK p k 37 := ⟨_, rfl⟩
      rw [← hx] at hx37 ⊢
      have Hx := Lib.hid hx
      clear hx hle
      go_wp2
      go_ret
      refine ⟨?_, rfl⟩
      have he : (((rootW p k).toNat : Nat) : Int) = (x : Int) % 4294967296 := by
        rw [rootW, ← Hx.out, UInt32.toNat_ofNat']; omega
      rw [he]
      rfl
/-! the primes -/
def cells64 (l : List Nat) : List Value := l.map fun (x : Nat) => Value.int .u64 (x : Int)
def npart (l : List Nat) (m : Nat) : List Value := cells64 l ++ List.replicate (m - l.length) (.int .u64 0)
theorem npart_length (l : List Nat) (m : Nat) (h : l.length ≤ m) : (npart l m).length = m := by simp [npart, cells64]; omega
theorem npart_set (l : List Nat) (m : Nat) (x : Nat) (h : l.length < m) : (npart l m).set l.length (.int .u64 (x : Int)) = npart (l ++ [x]) m := by
  rw [npart, List.set_append, if_neg (by simp [cells64]), show (cells64 l).length = l.length by simp [cells64], Nat.sub_self]
  obtain ⟨d, hd⟩ : ∃ d, m - l.length = d + 1 := ⟨m - l.length - 1, by omega⟩
  rw [hd, List.replicate_succ, List.set_cons_zero, npart]
  simp only [cells64, List.map_append, List.length_append, List.length_singleton, List.map_cons, List.map_nil, List.append_assoc, List.cons_append, List.nil_append]
  rw [show m - (l.length + 1) = d by omega]
theorem npart_put {w : World} {b t m : Nat} {ty : TypeId} {l : List Nat} (h : w.heap[b]? = some (.cells (npart l m).toArray ty (0, 0))) (hl : l.length = t) (hm : t < m) (x : Nat) :
    (w.setCell ⟨b, t, none⟩ (.int .u64 (x : Int))).heap[b]? = some (.cells (npart (l ++ [x]) m).toArray ty (0, 0)) := by
  have h1 := blk_set h t (.int .u64 (x : Int))
  rw [List.setIfInBounds_toArray, ← hl, npart_set _ _ _ (by omega), hl] at h1
  exact h1
theorem npart_full (l : List Nat) (m : Nat) (h : l.length = m) : npart l m = cells64 l := by rw [npart, h, Nat.sub_self]; simp
set_option maxRecDepth 100000 in
set_option maxHeartbeats 2000000 in
theorem primes_any (w : World) : Calls Try.prog 132 #[] w fun e w' => e = .returned (.agg (cells64 primes).toArray) ∧ Below w.heap.size w w' := by
  go_enter Try.func132, Try.ntmps132
  go_wp2_with fail
  go_loopw [2, 3] (fun vn vp wr => ∃ p : Nat, 2 ≤ p ∧ p ≤ 312 ∧ vp = .int .u64 (p : Int) ∧ vn = .int .i64 ((primesTo p).length : Int) ∧ wr.heap[w.heap.size]? = some (.cells (npart [] 64).toArray 175 (0, 0)) ∧ wr.heap[w.heap.size + 1]? = some (.cells (npart (primesTo p) 64).toArray 175 (0, 0)) ∧ Below w.heap.size w wr) (fun _ vp _ => 312 - (intOf vp).toNat)
  case atStart =>
    have e2 : primesTo 2 = [] := by decide
    refine ⟨2, by omega, by omega, rfl, by rw [e2]; rfl, blk_alloc (heap_alloc_new _ _) _, ?_, ((Below.refl _ _).alloc (Nat.le_refl _) _).alloc (by rw [alloc_size]; omega) _⟩
    rw [e2]
    have := heap_alloc_new (w.alloc (.cells (npart [] 64).toArray 175)) (.cells (npart [] 64).toArray 175)
    rw [alloc_size] at this
    exact this
  case round =>
    obtain ⟨p, hp2, hp, rfl, rfl, hz, ha, hB⟩ := hrel
    have Hz := Lib.hid hz
    have Ha := Lib.hid ha
    clear hz ha
    by_cases h312 : p < 312
    · have hn := primes_lt p h312
      obtain ⟨n, hn0⟩ : ∃ n, n = (primesTo p).length := ⟨_, rfl⟩
      rw [← hn0] at hn ⊢
      have Hn := Lib.hid hn0
      have hps := primesTo_succ p hp2
      have Hps := Lib.hid hps
      clear hn0 hps
      have hd1 : decide ((p : Int) < 1000) = true := decide_eq_true (by omega)
      have hd2 : decide ((n : Int) < 64) = true := decide_eq_true (by omega)
      have hd3 : decide (p < 1000) = true := decide_eq_true (by omega)
      have hd4 : decide (n < 64) = true := decide_eq_true (by omega)
      go_wp2_with fail
      go_loop [4, 5] (fun vi vd => ∃ d : Nat, 2 ≤ d ∧ vd = .int .u64 (d : Int) ∧ vi = .bool (inn p d) ∧ d ≤ 32 ∧ ∀ e, e < d → 2 ≤ e → e * e ≤ p) (fun _ vd => 40 - (intOf vd).toNat)
      case atStart =>
        refine ⟨2, by omega, rfl, ?_, by omega, fun e h1 h2 => by omega⟩
        have : inn p 2 = true := by simp [inn, List.range_succ]
        rw [this]
      case round =>
        obtain ⟨d, hd, rfl, rfl, hd32, hq⟩ := hrel
        have hi := inn_all p d (by omega) hd
        have hs := inn_succ p d hd
        obtain ⟨q, hqq⟩ : ∃ q, q = d * d := ⟨_, rfl⟩
        have hqb : q ≤ 1024 := by rw [hqq]; exact Nat.mul_le_mul hd32 hd32
        have hq1 : (d : Int) * (d : Int) = (q : Int) := by rw [hqq]; exact (Int.natCast_mul _ _).symm
        have hq2 : IntKind.u64.wrap ((d : Int) * (d : Int)) = (q : Int) := by rw [hq1, IntKind.wrap_u64]; omega
        obtain ⟨b, hb⟩ : ∃ b, b = inn p d := ⟨_, rfl⟩
        rw [← hb] at hs hi ⊢
        rw [← hqq] at hi
        have Hq := Lib.hid hq
        have Hi := Lib.hid (fun h => hi h hq)
        have Hqq := Lib.hid hqq
        have Hb := Lib.hid hb
        clear hq hi hqq hb
        by_cases hqp : q ≤ p
        · obtain ⟨r, hr⟩ : ∃ r, r = p % d := ⟨_, rfl⟩
          have hr1 : (p : Int) % (d : Int) = (r : Int) := by rw [hr]; exact (Int.natCast_emod _ _).symm
          have hr2 : (p : Int).tmod (d : Int) = (r : Int) := by rw [Int.tmod_eq_emod_of_nonneg (by omega)]; exact hr1
          have hd0 : (0 : Int) < (d : Int) := by omega
          have hd31 : d < 32 := by
            apply Nat.lt_of_not_le
            intro h6
            have h7 := Nat.mul_le_mul h6 h6
            have h8 := Hqq.out
            omega
          rw [← hr] at hs
          have Hs := Lib.hid hs
          clear hs hr
          have hall : ∀ e, e < d + 1 → 2 ≤ e → e * e ≤ p := by
            intro e h1 h2
            by_cases h3 : e < d
            · exact Hq.out e h3 h2
            · obtain rfl : e = d := by omega
              rw [← Hqq.out]; exact hqp
          have Hall := Lib.hid hall
          clear hall
          by_cases hr0 : r = 0
          · have e1 : ((r : Int) == 0) = true := by rw [hr0]; rfl
            have Hr0 := Lib.hid hr0
            clear hr0
            go_wp2_with fail
            refine ⟨⟨d + 1, by omega, by go_num, ?_, by omega, Hall.out⟩, by simp only [intOf]; omega⟩
            rw [Hs.out, Hr0.out]; simp
          · have e1 : ((r : Int) == 0) = false := by rw [Bool.eq_false_iff]; intro e; rw [beq_iff_eq] at e; omega
            go_wp2_with fail
            refine ⟨⟨d + 1, by omega, by go_num, ?_, by omega, Hall.out⟩, by simp only [intOf]; omega⟩
            have : (r != 0) = true := by simpa using hr0
            rw [Hs.out, this, Bool.and_true]
        · have hbp := Hi.out (by omega)
          rw [← hbp] at Hps
          have Hbp := Lib.hid hbp
          have hd5 : decide (q ≤ p) = false := decide_eq_false hqp
          have hd6 : decide ((q : Int) ≤ (p : Int)) = false := decide_eq_false (by omega)
          clear hbp hs Hi Hq Hb
          have hcell : ∃ v, wr.cell? ⟨w.heap.size + 1, n, none⟩ = some v := by
            rw [blk_cell Ha.out n]
            simp only [List.getElem?_toArray]
            exact ⟨_, List.getElem?_eq_getElem (by rw [npart_length _ _ (by rw [← Hn.out]; omega)]; omega)⟩
          obtain ⟨v0, hv0⟩ := hcell
          have hvf := blk_frozen Ha.out n
          have hn64 : (n : Int) < 64 := by omega
          cases b
          · go_wp2_with fail
            refine ⟨⟨p + 1, by omega, by omega, by go_num, ?_, Hz.out, ?_, hB⟩, by simp only [intOf]; omega⟩
            · rw [Hps.out, if_neg (by simp), ← Hn.out]
            · rw [Hps.out, if_neg (by simp)]; exact Ha.out
          · go_wp2_with fail
            refine ⟨⟨p + 1, by omega, by omega, by go_num, ?_, blk_far Hz.out (by simp) _, ?_, hB.setCell (by simp) _⟩, by simp only [intOf]; omega⟩
            · rw [Hps.out, if_pos rfl, List.length_append, ← Hn.out]; go_num
            · rw [Hps.out, if_pos rfl]; exact npart_put Ha.out Hn.out.symm hn _
    · obtain rfl : p = 312 := by omega
      have hl := primes_64
      rw [hl]
      have hcl : (cells64 primes).length = 64 := by simp only [cells64, List.length_map]; exact primes_64
      rw [show primesTo 312 = primes from rfl, npart_full primes 64 primes_64] at Ha
      obtain ⟨L, hL⟩ : ∃ L, L = cells64 primes := ⟨_, rfl⟩
      rw [← hL] at Ha hcl
      have h1c : ∀ v ∈ L, v.oneCell' = true := by rw [hL]; intro v hv; obtain ⟨x, _, rfl⟩ := List.mem_map.1 hv; rfl
      have hr : wr.rangeAt (w.heap.size + 1) 0 L := fun j v hv => by rw [Nat.zero_add, blk_cell Ha.out j]; simpa using hv
      have hth : wr.there w.heap.size 0 L.toArray.size := fun j hj => by
        rw [Nat.zero_add, blk_cell Hz.out j]
        rw [List.size_toArray, hcl] at hj
        have hnl : (npart [] 64).length = 64 := rfl
        simp only [List.getElem?_toArray]
        rw [List.getElem?_eq_getElem (by omega)]
        exact ⟨rfl, blk_frozen Hz.out j⟩
      have hi : (Try.prog.info? 175).map (·.size) = some L.length := by rw [hcl]; rfl
      have hi2 : (Try.prog.info? 175).map (·.size) = some L.toArray.size := by rw [hi, List.size_toArray]
      have hr2 : (wr.setCells w.heap.size 0 L).rangeAt w.heap.size 0 L := World.rangeAt_setCells_same _ _ _ _ (by simpa using hth)
      have HL := Lib.hid hL
      have Hi := Lib.hid hi
      have Hi2 := Lib.hid hi2
      have Hr := Lib.hid hr
      have Hth := Lib.hid hth
      have Hr2 := Lib.hid hr2
      clear hi hi2 hr hth hr2 hL hcl hl
      go_wp2_with (first
        | (refine wpList_load_mid rfl _ _ rfl (w.heap.size + 1) 0 rfl L _ Hr.out Try.underlying175 rfl Hi.out ?_)
        | (refine wpList_store_mid rfl _ _ _ rfl w.heap.size 0 L.toArray rfl rfl Hth.out Hi2.out (all_oneCell_toArray h1c) ?_))
      refine bodyPost_ret (v := .agg L.toArray) (results_cell_mid rfl _ _ w.heap.size L _ rfl Hr2.out Try.underlying175 rfl Hi.out) rfl ⟨?_, ?_⟩
      · rw [HL.out]
      · exact below_cells (Nat.le_refl _) _ _ _ hB
end Go.Proofs.Ytcjabfdjngekfaa.Sha
