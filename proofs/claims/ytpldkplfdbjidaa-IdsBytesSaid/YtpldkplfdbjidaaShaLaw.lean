/- A sum that is known; ShaNobody's walk. -/
import Derived.Test.YtpldkplfdbjidaaShaOf
import Derived.Stop.BytesEq
import Derived.Lib.SlBytesConst
set_option linter.unusedVariables false
set_option linter.unusedSimpArgs false
namespace Go.Proofs.Ytpldkplfdbjidaa.Sha
open Go.RowKit Go.Proofs.Ytpldkplfdbjidaa.Wd

/-! sums compared -/
theorem sz8 (w : World) : (sizeOf 5).run Try.prog w = .ok 1 w := by kernel_rfl
theorem eqSum (w : World) (xs ys : List UInt8) (hx : xs.length = 32) (hy : ys.length = 32) : (Op.equalIn 10000 23 (.agg (bs xs).toArray) (.agg (bs ys).toArray)).run Try.prog w = .ok (xs == ys) w :=
  run_equalIn_bytes w 9998 23 5 32 Try.underlying23 Try.underlying5 sz8 xs ys hx hy
/-- a constant's bytes, behind '[]byte(..)' -/
theorem Rd.marked (W : World) (sz n : Nat) (xs : List Value) (e : TypeId) (fr : Nat × Nat) (h : xs.length = n * sz) (hm : n ≤ maxLen) : Rd (W.alloc (.cells xs.toArray e fr)) sz (.slice (some ⟨W.heap.size, 0, none⟩) n n) n xs := by
  refine ⟨h, _, _, rfl, Nat.le_refl _, hm, fun _ => ⟨_, _, rfl, fun i hi => ?_⟩⟩
  have hil : i < xs.length := by omega
  have := World.news_of_block (cs := xs.toArray) (t := e) (fr := fr) (heap_alloc_new W (.cells xs.toArray e fr)) i xs[i] (by simp [List.getElem?_eq_getElem hil])
  rw [add_plain] at this
  rw [this, List.getElem?_eq_getElem hil]
theorem grown_cells (g : Nat) : ∀ (vs : List Value) (o : Nat) (w : World), w.grownBy (w.setCells g o vs) (some g)
  | [], o, w => World.grownBy.refl w _
  | v :: r, o, w => by rw [World.setCells]; exact (grown_setCell w g o v).trans (grown_cells g r (o + 1) _)
theorem infoSum : (Try.prog.info? 23).map (·.size) = some 32 := by kernel_rfl
/-- a sum is laid where 32 zeros lie -/
theorem wpList_store_sum {ops : Array Oper} {rest : List Oper} {o : Oper} {a : Act} {W : World} {Q : Exit → Act → World → Prop} (hgd : o.guard = none) (x y : Operand) (ho : o.op = .store 23 x y) (g : Nat) (l l0 : List UInt8) (hl : l.length = 32)
    (hx : a.eval x = .pointer (some ⟨g, 0, none⟩)) (hy : a.eval y = .agg (bs l).toArray) (hl0 : l0.length = 32) (hg : W.heap[g]? = some (.cells (bs l0).toArray 23 (0, 0)))
    (h : ∀ W', W'.heap[g]? = some (.cells (bs l).toArray 23 (0, 0)) → W.grownBy W' (some g) → wpList Try.prog ops Q rest (a.put o.dst undef) W') : wpList Try.prog ops Q (o :: rest) a W := by
  refine wpList_store_mid hgd _ x y ho g 0 (bs l).toArray hx hy ?_ ?_ (all_oneCell_toArray (bs_oneCell l)) ?_
  · intro j hj
    rw [Nat.zero_add, blk_cell hg j]
    rw [List.size_toArray, bs_length] at hj
    simp only [List.getElem?_toArray]
    rw [List.getElem?_eq_getElem (by rw [bs_length]; omega)]
    exact ⟨rfl, blk_frozen hg j⟩
  · rw [List.size_toArray, bs_length, hl]; exact infoSum
  · exact h _ (heap_setCells_all _ _ _ _ _ hg (by rw [List.size_toArray, bs_length, bs_length, hl, hl0])) (grown_cells _ _ _ _)
theorem blk_byte {w : World} {g : Nat} {l : List UInt8} {t : TypeId} (h : w.heap[g]? = some (.cells (bs l).toArray t (0, 0))) (i : Nat) (hi : i < l.length) : w.cell? ⟨g, i, none⟩ = some (.int .u8 ((gb l i).toNat : Int)) := by
  rw [blk_cell h i]; simp only [List.getElem?_toArray]; exact bs_get l i hi
end Go.Proofs.Ytpldkplfdbjidaa.Sha
