/- A hash is made; a hash that nobody made; how many bytes; another one. -/
import Derived.Test.YtpldkplfdbjidaaShaMix
import Derived.Outline
set_option linter.unusedVariables false
set_option linter.unusedSimpArgs false
namespace Go.Proofs.Ytpldkplfdbjidaa.Sha
open Go.RowKit Go.Proofs.Ytpldkplfdbjidaa.Wd

theorem rangeAt_alloc (w : World) (L : List Value) (t : TypeId) : (w.alloc (.cells L.toArray t)).rangeAt w.heap.size 0 L := fun j v hv => by
  rw [Nat.zero_add, blk_cell (heap_alloc_new _ _) j]; simpa using hv
set_option maxRecDepth 100000 in
theorem first_any (w : World) : Calls Try.prog 147 #[] w fun e w' => e = .returned (.agg (ws F0.list).toArray) ∧ Below w.heap.size w w' := by
  go_enter Try.func147, Try.ntmps147
  go_wp2
  refine bodyPost_ret (v := .agg (ws F0.list).toArray) (results_cell_mid rfl _ _ w.heap.size (ws F0.list) _ rfl (rangeAt_alloc w (ws F0.list) _) Try.underlying198 rfl rfl) rfl ⟨rfl, ?_⟩
  exact (Below.refl _ _).alloc (Nat.le_refl _) _
set_option maxRecDepth 100000 in
set_option maxHeartbeats 4000000 in
theorem rounds_any (w : World) : Calls Try.prog 148 #[] w fun e w' => e = .returned (.agg (ws K0).toArray) ∧ Below w.heap.size w w' := by
  obtain ⟨L, hL⟩ : ∃ L, L = ws K0 := ⟨_, rfl⟩
  have hsl : L.length = 64 := by rw [hL, ws_length, K0_length]
  have h1c : ∀ v ∈ L, v.oneCell' = true := by
    rw [hL]; intro v hv; obtain ⟨x, _, rfl⟩ := List.mem_map.1 hv; rfl
  have Hi : Hid ((Try.prog.info? 200).map (·.size) = some L.toArray.size) := by show _ = _; rw [List.size_toArray, hsl]; rfl
  have HL := Lib.hid hL
  clear hL
  go_enter Try.func148, Try.ntmps148
  go_wp2_with (refine wpList_store_mid rfl _ _ _ rfl w.heap.size 0 L.toArray rfl (by rw [HL.out]; kernel_rfl) (there_alloc _ _ _ _ (by rw [List.size_toArray, hsl]; exact Nat.le_refl 64)) Hi.out (all_oneCell_toArray h1c) ?_)
  refine bodyPost_ret (v := .agg L.toArray) (results_cell_mid rfl _ _ w.heap.size L _ rfl (World.rangeAt_setCells_same _ _ _ _ (there_alloc _ _ _ _ (by rw [hsl]; exact Nat.le_refl 64))) Try.underlying200 rfl (by rw [Hi.out, List.size_toArray])) rfl ⟨by rw [HL.out], ?_⟩
  exact below_cells (Nat.le_refl _) _ _ _ ((Below.refl _ _).alloc (Nat.le_refl _) _)
theorem wpList_build_to {P : Program} {ops : Array Oper} {rest : List Oper} {o : Oper} {a : Act} {w : World} {Q : Exit → Act → World → Prop} (hg : o.guard = none) (t : TypeId) (parts : Array (Nat × Operand)) (ho : o.op = .build t parts)
    (cells : Array Value) (hb : P.built t (parts.map fun (i, x) => (i, a.eval x)).toList = some cells) (h : wpList P ops Q rest (a.put o.dst (.agg cells)) w) : wpList P ops Q (o :: rest) a w :=
  wpList_build hg t parts ho (by rw [hb]; rfl) (by rw [hb]; exact h)
set_option maxRecDepth 100000 in
set_option maxHeartbeats 4000000 in
theorem new_any (w : World) : Calls Try.prog 98 #[] w fun e w' => ∃ g, e = .returned (.pointer (some ⟨g, 0, none⟩)) ∧ HashAt w' g Hs.new ∧ w.heap.size ≤ g ∧ Below w.heap.size w w' := by
  have H1 := Lib.hid first_any
  have H2 := Lib.hid rounds_any
  obtain ⟨L, hL⟩ : ∃ L, L = ws K0 := ⟨_, rfl⟩
  obtain ⟨M, hM⟩ : ∃ L, L = ws F0.list := ⟨_, rfl⟩
  obtain ⟨C, hC⟩ : ∃ C, C = (hcells Hs.new).toArray := ⟨_, rfl⟩
  have hb : Try.prog.built 204 [(0, .bool true), (1, .agg M.toArray), (2, .agg L.toArray)] = some C := by rw [hM, hL, hC]; kernel_rfl
  rw [← hL] at H2
  rw [← hM] at H1
  have HC := Lib.hid hC
  have Hb := Lib.hid hb
  clear hL hM hC hb
  go_enter Try.func98, Try.ntmps98
  go_wp2_with (first
    | (go_at_call 147; refine (H1.out _).mono ?_; rintro e w1 ⟨rfl, hb1⟩) | (go_at_call 148; refine (H2.out _).mono ?_; rintro e w2 ⟨rfl, hb2⟩)
    | (refine wpList_build_to rfl _ _ rfl C ?_ ?_; focus (rw [List.map_toArray]; exact Hb.out)))
  go_ret
  refine ⟨_, rfl, ⟨?_, rfl⟩, ?_, ?_⟩
  · rw [← HC.out]; exact heap_alloc_new _ _
  · have := hb1.size; have := hb2.size; omega
  · exact (hb1.trans (hb2.mono hb1.size)).alloc (by have := hb1.size; have := hb2.size; omega) _
end Go.Proofs.Ytpldkplfdbjidaa.Sha
