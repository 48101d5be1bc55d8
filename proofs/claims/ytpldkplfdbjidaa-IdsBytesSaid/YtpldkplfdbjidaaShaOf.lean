/- The sum of bytes; hashes that nobody made. -/
import Derived.Test.YtpldkplfdbjidaaShaSum
set_option linter.unusedVariables false
set_option linter.unusedSimpArgs false
namespace Go.Proofs.Ytpldkplfdbjidaa.Sha
open Go.RowKit Go.Proofs.Ytpldkplfdbjidaa.Wd

theorem sha_length (l : List UInt8) : (sha l).length = 32 := sumBytes_length _
theorem sum_length (h : Hs) : h.sum.length = 32 := sumBytes_length _
/-- where bytes are read that are there -/
theorem Rd.lt {w : World} {sz n : Nat} {v : Value} {xs : List Value} (h : Rd w sz v n xs) (hn : 0 < n) (hs : 0 < sz) (k : Nat) (hk : v.ownBlock = some k) : k < w.heap.size := by
  obtain ⟨hl, A, c, rfl, h1, h2, h3⟩ := h
  obtain ⟨b, off, rfl, hc⟩ := h3 hn
  injection hk with hk
  subst hk
  have h0 : 0 < n * sz := Nat.mul_pos hn hs
  have := hc 0 h0
  rw [List.getElem?_eq_getElem (by omega)] at this
  exact World.block_lt_of_cell? w _ this
set_option maxRecDepth 100000 in
set_option maxHeartbeats 1000000 in
theorem of_any (v : Value) (l : List UInt8) (w : World) (HR : Rd w 1 v l.length (bs l)) (hl : l.length ≤ 140737488355328) :
    Calls Try.prog 37 #[v] w fun e w' => e = .returned (.agg (bs (sha l)).toArray) ∧ Below w.heap.size w w' := by
  obtain ⟨L, hL⟩ : ∃ L, L = bs (sha l) := ⟨_, rfl⟩
  have hsl : L.length = 32 := by rw [hL, bs_length, sha_length]
  have h1c : ∀ v ∈ L, v.oneCell' = true := by rw [hL]; exact bs_oneCell _
  have hi : (Try.prog.info? 23).map (·.size) = some L.length := by rw [hsl]; rfl
  have Hi2 : Hid ((Try.prog.info? 23).map (·.size) = some L.toArray.size) := by show _ = _; rw [hi, List.size_toArray]
  have hth : ∀ W : World, W.heap[w.heap.size]? = some (.cells (bpart [] 32).toArray 23 (0, 0)) → W.there w.heap.size 0 L.toArray.size := fun W hW j hj => by
    rw [Nat.zero_add, blk_cell hW j]
    simp only [List.size_toArray] at hj
    have : (bpart [] 32).length = 32 := rfl
    simp only [List.getElem?_toArray]
    rw [List.getElem?_eq_getElem (by omega)]
    exact ⟨rfl, blk_frozen hW j⟩
  have hlt := Rd.lt HR
  have HL := Lib.hid hL
  have Hi := Lib.hid hi
  have Hth := Lib.hid hth
  have Hsl := Lib.hid hsl
  clear hL hi hth hsl
  go_enter Try.func37, Try.ntmps37
  go_wp2_with (first
    | (go_at_call 98; refine (new_any _).mono ?_; rintro e w1 ⟨g, rfl, H1, hg, hb⟩; have q1 : w1.heap[w.heap.size]? = some (.cells (bpart [] 32).toArray 23 (0, 0)) := (blk_below (heap_alloc_new _ _) hb); have Q1 := Lib.hid q1; have q2 : Below w.heap.size w w1 := (((Below.refl _ _).alloc (Nat.le_refl _) _).trans (hb.mono (by rw [alloc_size]; omega))); rw [alloc_size] at hg; clear hb q1; have HR1 := HR.below q2)
    | (go_at_call 99; refine (take_any g Hs.new w1 v l H1 HR1 (fun h0 e => by have := hlt h0 (by omega) _ e; omega) (by show 0 + l.length < _; omega)).mono ?_; rintro e w2 ⟨rfl, H2, hg2⟩; have q3 : Below w.heap.size w w2 := q2.grown hg2 q2.size (fun k hk => by injection hk with hk; omega); have Q3 := Lib.hid (blk_grown Q1.out hg2 (by intro e; injection e with e; omega)))
    | (go_at_call 100; refine (sum_any g _ w2 H2 (by rw [feed_n]; show 0 + l.length + 128 < _; omega)).mono ?_; rintro e w3 ⟨he, hb3⟩; rw [show bs (Hs.new.feed l).sum = L from HL.out.symm] at he; subst he; have Q4 := Lib.hid (blk_below Q3.out hb3))
    | (refine wpList_store_mid rfl _ _ _ rfl w.heap.size 0 L.toArray rfl rfl (Hth.out _ Q4.out) Hi2.out (all_oneCell_toArray h1c) ?_))
  refine bodyPost_ret (v := .agg L.toArray) (results_cell_mid rfl _ _ w.heap.size L _ rfl (World.rangeAt_setCells_same _ _ _ _ (by have := Hth.out _ Q4.out; simpa using this)) Try.underlying23 rfl Hi.out) rfl ⟨?_, ?_⟩
  · rw [HL.out]
  · exact below_cells (Nat.le_refl _) _ _ _ (q3.trans (hb3.mono q3.size))
/-! hashes that nobody made -/
def zsum : List Value := bs (List.replicate 32 0)
set_option maxRecDepth 100000 in
theorem take_nil (v : Value) (w : World) : Calls Try.prog 99 #[.pointer none, v] w fun e w' => e = .returned (.tuple #[]) ∧ w' = w := by
  go_enter Try.func99, Try.ntmps99
  go_wp2_with (go_at_call 149; refine (none_nil _).mono ?_; rintro e w1 ⟨rfl, rfl⟩)
  exact bodyPost_ret (results_none rfl _ _ _) rfl ⟨rfl, rfl⟩
set_option maxRecDepth 100000 in
theorem take_not (g : Nat) (v : Value) (w : World) (hc : w.cell? ⟨g, 0, none⟩ = some (.bool false)) : Calls Try.prog 99 #[.pointer (some ⟨g, 0, none⟩), v] w fun e w' => e = .returned (.tuple #[]) ∧ w' = w := by
  go_enter Try.func99, Try.ntmps99
  go_wp2_with (go_at_call 149; refine (none_not g _ hc).mono ?_; rintro e w1 ⟨rfl, rfl⟩)
  exact bodyPost_ret (results_none rfl _ _ _) rfl ⟨rfl, rfl⟩
theorem built_zsum : Try.prog.built 23 [] = some zsum.toArray := by kernel_rfl
set_option maxRecDepth 100000 in
set_option maxHeartbeats 1000000 in
theorem sum_of_none (p : Value) (w : World) (hp : ∀ W, Below w.heap.size w W → Calls Try.prog 149 #[p] W fun e w' => e = .returned (.bool true) ∧ w' = W) :
    Calls Try.prog 100 #[p] w fun e w' => e = .returned (.agg zsum.toArray) ∧ Below w.heap.size w w' := by
  obtain ⟨L, hL⟩ : ∃ L, L = zsum := ⟨_, rfl⟩
  have hsl : L.length = 32 := by rw [hL]; rfl
  have h1c : ∀ v ∈ L, v.oneCell' = true := by rw [hL]; exact bs_oneCell _
  have hi : (Try.prog.info? 23).map (·.size) = some L.length := by rw [hsl]; rfl
  have Hi2 : Hid ((Try.prog.info? 23).map (·.size) = some L.toArray.size) := by show _ = _; rw [hi, List.size_toArray]
  have hbu : Try.prog.built 23 [] = some L.toArray := by rw [hL]; exact built_zsum
  have Hbu := Lib.hid hbu
  have HL := Lib.hid hL
  have Hi := Lib.hid hi
  have Hp := Lib.hid hp
  have Hsl := Lib.hid hsl
  clear hL hi hsl hbu hp
  go_enter Try.func100, Try.ntmps100
  go_wp2_with (first
    | (go_at_call 149; refine (Hp.out _ ((Below.refl _ _).alloc (Nat.le_refl _) _)).mono ?_; rintro e w1 ⟨rfl, hw1⟩; have q1 : w1.heap[w.heap.size]? = some (.cells (bpart [] 32).toArray 23 (0, 0)) := (by rw [hw1]; exact heap_alloc_new _ _); have q2 : Below w.heap.size w w1 := (by rw [hw1]; exact (Below.refl _ _).alloc (Nat.le_refl _) _); have Q1 := Lib.hid q1; clear hw1 q1; have Hth : Hid (w1.there w.heap.size 0 L.toArray.size) := (by intro j hj; rw [Nat.zero_add, blk_cell Q1.out j]; rw [List.size_toArray, Hsl.out] at hj; have : (bpart [] 32).length = 32 := rfl; simp only [List.getElem?_toArray]; rw [List.getElem?_eq_getElem (by omega)]; exact ⟨rfl, blk_frozen Q1.out j⟩))
    | (refine wpList_build_to rfl _ _ rfl L.toArray ?_ ?_; focus (rw [List.map_toArray]; exact Hbu.out))
    | (refine wpList_store_mid rfl _ _ _ rfl w.heap.size 0 L.toArray rfl rfl Hth.out Hi2.out (all_oneCell_toArray h1c) ?_))
  refine bodyPost_ret (v := .agg L.toArray) (results_cell_mid rfl _ _ w.heap.size L _ rfl (World.rangeAt_setCells_same _ _ _ _ (by have := Hth.out; simpa using this)) Try.underlying23 rfl Hi.out) rfl ⟨?_, ?_⟩
  · rw [HL.out]
  · exact below_cells (Nat.le_refl _) _ _ _ q2
theorem sum_nil (w : World) : Calls Try.prog 100 #[.pointer none] w fun e w' => e = .returned (.agg zsum.toArray) ∧ Below w.heap.size w w' :=
  sum_of_none _ w fun W _ => none_nil W
theorem sum_not (g : Nat) (w : World) (hc : w.cell? ⟨g, 0, none⟩ = some (.bool false)) : Calls Try.prog 100 #[.pointer (some ⟨g, 0, none⟩)] w fun e w' => e = .returned (.agg zsum.toArray) ∧ Below w.heap.size w w' :=
  sum_of_none _ w fun W hW => none_not g W (cell_below hW hc)
end Go.Proofs.Ytpldkplfdbjidaa.Sha
