/- A sum that is known; ShaNobody's walk. -/
import Derived.Test.YtmiioehiffddeaaShaOf
import Derived.Stop.BytesEq
import Derived.Lib.SlBytesConst
set_option linter.unusedVariables false
set_option linter.unusedSimpArgs false
namespace Go.Proofs.Ytmiioehiffddeaa.Sha
open Go.RowKit Go.Proofs.Ytmiioehiffddeaa.Wd

/-! sums compared -/
theorem sz8 (w : World) : (sizeOf 5).run Try.prog w = .ok 1 w := by kernel_rfl
theorem eqSum (w : World) (xs ys : List UInt8) (hx : xs.length = 32) (hy : ys.length = 32) : (Op.equalIn 10000 48 (.agg (bs xs).toArray) (.agg (bs ys).toArray)).run Try.prog w = .ok (xs == ys) w :=
  run_equalIn_bytes w 9998 48 5 32 Try.underlying48 Try.underlying5 sz8 xs ys hx hy
/-- a constant's bytes, behind '[]byte(..)' -/
theorem Rd.marked (W : World) (sz n : Nat) (xs : List Value) (e : TypeId) (fr : Nat × Nat) (h : xs.length = n * sz) (hm : n ≤ maxLen) : Rd (W.alloc (.cells xs.toArray e fr)) sz (.slice (some ⟨W.heap.size, 0, none⟩) n n) n xs := by
  refine ⟨h, _, _, rfl, Nat.le_refl _, hm, fun _ => ⟨_, _, rfl, fun i hi => ?_⟩⟩
  have hil : i < xs.length := by omega
  have := World.news_of_block (cs := xs.toArray) (t := e) (fr := fr) (heap_alloc_new W (.cells xs.toArray e fr)) i xs[i] (by simp [List.getElem?_eq_getElem hil])
  rw [add_plain] at this
  rw [this, List.getElem?_eq_getElem hil]
theorem grown_cells (g : Nat) : ∀ (vs : List Value) (o : Nat) (w : World), w.grownBy (w.setCells g o vs) (some g)
  | [], o, w => World.grownBy.refl w _
  | v :: r, o, w => by rw [World.setCells]; exact (grown_setCell w g o v).trans (grown_cells g r (o + 1) _)
theorem infoSum : (Try.prog.info? 48).map (·.size) = some 32 := by kernel_rfl
/-- a sum is laid where 32 zeros lie -/
theorem wpList_store_sum {ops : Array Oper} {rest : List Oper} {o : Oper} {a : Act} {W : World} {Q : Exit → Act → World → Prop} (hgd : o.guard = none) (x y : Operand) (ho : o.op = .store 48 x y) (g : Nat) (l l0 : List UInt8) (hl : l.length = 32)
    (hx : a.eval x = .pointer (some ⟨g, 0, none⟩)) (hy : a.eval y = .agg (bs l).toArray) (hl0 : l0.length = 32) (hg : W.heap[g]? = some (.cells (bs l0).toArray 48 (0, 0)))
    (h : ∀ W', W'.heap[g]? = some (.cells (bs l).toArray 48 (0, 0)) → W.grownBy W' (some g) → wpList Try.prog ops Q rest (a.put o.dst undef) W') : wpList Try.prog ops Q (o :: rest) a W := by
  refine wpList_store_mid hgd _ x y ho g 0 (bs l).toArray hx hy ?_ ?_ (all_oneCell_toArray (bs_oneCell l)) ?_
  · intro j hj
    rw [Nat.zero_add, blk_cell hg j]
    rw [List.size_toArray, bs_length] at hj
    simp only [List.getElem?_toArray]
    rw [List.getElem?_eq_getElem (by rw [bs_length]; omega)]
    exact ⟨rfl, blk_frozen hg j⟩
  · rw [List.size_toArray, bs_length, hl]; exact infoSum
  · exact h _ (heap_setCells_all _ _ _ _ _ hg (by rw [List.size_toArray, bs_length, bs_length, hl, hl0])) (grown_cells _ _ _ _)
theorem blk_byte {w : World} {g : Nat} {l : List UInt8} {t : TypeId} (h : w.heap[g]? = some (.cells (bs l).toArray t (0, 0))) (i : Nat) (hi : i < l.length) : w.cell? ⟨g, i, none⟩ = some (.int .u8 ((gb l i).toNat : Int)) := by
  rw [blk_cell h i]; simp only [List.getElem?_toArray]; exact bs_get l i hi
set_option maxRecDepth 100000 in
set_option maxHeartbeats 2000000 in
theorem one_any (w : World) : Calls Try.prog 32 #[] w fun e w' => e = .returned (.bool true) ∧ Below w.heap.size w w' := by
  obtain ⟨L, hL⟩ : ∃ L, L = sha [97, 98, 99] := ⟨_, rfl⟩
  have hsl : L.length = 32 := by rw [hL, sha_length]
  have g0 : gb L 0 = 0xba := by rw [hL, sha_abc]; rfl
  have g1 : gb L 1 = 0x78 := by rw [hL, sha_abc]; rfl
  have g2 : gb L 2 = 0x16 := by rw [hL, sha_abc]; rfl
  have g3 : gb L 3 = 0xbf := by rw [hL, sha_abc]; rfl
  have g30 : gb L 30 = 0x15 := by rw [hL, sha_abc]; rfl
  have g31 : gb L 31 = 0xad := by rw [hL, sha_abc]; rfl
  have HR := Rd.marked w 1 3 (bs [97, 98, 99]) 5 (3, 4) rfl (by simp [maxLen])
  have ho := of_any (.slice (some ⟨w.heap.size, 0, none⟩) 3 3) [97, 98, 99] (w.alloc (.cells #[.int .u8 97, .int .u8 98, .int .u8 99] 5 (3, 4))) HR (by simp)
  rw [← hL] at ho
  have HO := Lib.hid ho
  have hcs : ∀ (W : World) (g : Nat), W.heap[g]? = some (.cells (bs L).toArray 48 (0, 0)) → W.cell? ⟨g, 0, none⟩ = some (.int .u8 186) ∧ W.cell? ⟨g, 1, none⟩ = some (.int .u8 120) ∧ W.cell? ⟨g, 2, none⟩ = some (.int .u8 22) ∧ W.cell? ⟨g, 3, none⟩ = some (.int .u8 191) ∧ W.cell? ⟨g, 30, none⟩ = some (.int .u8 21) ∧ W.cell? ⟨g, 31, none⟩ = some (.int .u8 173) := by
    intro W g hW
    refine ⟨?_, ?_, ?_, ?_, ?_, ?_⟩
    · rw [blk_byte hW 0 (by omega), g0]; rfl
    · rw [blk_byte hW 1 (by omega), g1]; rfl
    · rw [blk_byte hW 2 (by omega), g2]; rfl
    · rw [blk_byte hW 3 (by omega), g3]; rfl
    · rw [blk_byte hW 30 (by omega), g30]; rfl
    · rw [blk_byte hW 31 (by omega), g31]; rfl
  have Hcs := Lib.hid hcs
  have Hsl := Lib.hid hsl
  have HL := Lib.hid hL
  clear g0 g1 g2 g3 g30 g31 hcs ho hL hsl
  have kc := fun (w : World) (C : Array Value) (n c : Nat) => Lib.run_convert_bytes_const (P := Try.prog) w 23 5 C n c Try.underlying23 Try.underlying5
  go_enter Try.func32, Try.ntmps32
  go_wp2_with (first
    | (go_at_call 30; go_must (refine HO.out.mono ?_); rintro e w1 ⟨rfl, hb⟩; have hb2 : Below w.heap.size w w1 := (((Below.refl _ _).alloc (Nat.le_refl _) _).trans (hb.mono (by rw [alloc_size]; omega))); clear hb kc)
    | (refine wpList_store_sum rfl _ _ rfl w1.heap.size L (List.replicate 32 0) Hsl.out rfl rfl rfl (heap_alloc_new w1 _) ?_; intro w2 hw2 hg2; have hb3 := (hb2.alloc hb2.size _).grown hg2 (by rw [alloc_size]; have := hb2.size; omega) (fun k hk => by injection hk with hk; rw [← hk]; exact hb2.size); obtain ⟨c0, c1, c2, c3, c4, c5⟩ := Hcs.out _ _ hw2; have Hw2 := Lib.hid hw2; clear hw2 hg2))
  go_ret
  exact ⟨rfl, hb3⟩
end Go.Proofs.Ytmiioehiffddeaa.Sha
