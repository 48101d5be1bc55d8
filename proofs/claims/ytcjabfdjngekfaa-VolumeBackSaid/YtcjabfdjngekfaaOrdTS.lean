/- Structs that are stored, in an order with forks. -/
import Derived.Test.YtcjabfdjngekfaaOrdT
import Derived.Test.YtcjabfdjngekfaaShaConsts
set_option linter.unusedVariables false
set_option linter.unusedSimpArgs false
namespace Go.Proofs.Ytcjabfdjngekfaa.Ord
open Go Go.RowKit Go.Proofs.Ytcjabfdjngekfaa.Wd
theorem wpT_store_all {P : Program} {ops : Array Oper} {Q : Exit → Act → World → Prop} {S : World → Prop} {o : Oper} {r : OT Oper} {a : Act} {W : World} (hw : Region.wanted o (yielded ops a.tmps) = true) (ty : TypeId) (x y : Operand) (ho : o.op = .store ty x y) (g : Nat) (cs cs0 : List Value)
    (hx : a.eval x = .pointer (some ⟨g, 0, none⟩)) (hy : a.eval y = .agg cs.toArray) (h1 : ∀ v ∈ cs, v.oneCell' = true) (hl : cs.length = cs0.length) (hi : (P.info? ty).map (·.size) = some cs.length) (t : TypeId) (hg : W.heap[g]? = some (.cells cs0.toArray t (0, 0)))
    (h : ∀ W', Hid (W'.heap[g]? = some (.cells cs.toArray t (0, 0))) → W.grownBy W' (some g) → S W' ∧ WpT P ops Q S r (a.put o.dst undef) W') : WpT P ops Q S (.go true o r) a W := by
  refine wpT_call hw (fun K hK => ?_)
  obtain ⟨h2, h3⟩ := h _ (Lib.hid (Sha.heap_setCells_all _ _ cs _ _ hg (by rw [List.size_toArray, hl]))) (Sha.grown_cells _ _ _ _)
  refine wp_store_mid ty x y ho g 0 cs.toArray hx hy ?_ (by rw [List.size_toArray]; exact hi) (all_oneCell_toArray h1) (hK _ _ h2 h3)
  intro j hj
  rw [Nat.zero_add, blk_cell hg j]
  rw [List.size_toArray] at hj
  simp only [List.getElem?_toArray]
  rw [List.getElem?_eq_getElem (by omega)]
  exact ⟨rfl, blk_frozen hg j⟩
/-- two blocks are laid, and two structs in them -/
theorem two_laid {W0 W w1 w2 : World} {ga gb : Nat} {A B zb : List Value} {t : TypeId} (h0 : Below W0.heap.size W0 W) (hga : W0.heap.size ≤ ga) (hgb : W0.heap.size ≤ gb) (hne : ga ≠ gb) (hb : W.heap[gb]? = some (.cells zb.toArray t (0, 0)))
    (h1 : w1.heap[ga]? = some (.cells A.toArray t (0, 0))) (hg1 : W.grownBy w1 (some ga)) : Below W0.heap.size W0 w1 ∧ w1.heap[gb]? = some (.cells zb.toArray t (0, 0)) ∧
    ((w2.heap[gb]? = some (.cells B.toArray t (0, 0))) → w1.grownBy w2 (some gb) → w2.heap[ga]? = some (.cells A.toArray t (0, 0)) ∧ w2.heap[gb]? = some (.cells B.toArray t (0, 0)) ∧ Below W0.heap.size W0 w2) := by
  have hb1 : Below W0.heap.size W0 w1 := h0.grown hg1 h0.size (fun k hk => by injection hk with hk; omega)
  refine ⟨hb1, blk_grown hb hg1 (by intro e; injection e with e; exact hne e.symm), fun h2 hg2 => ⟨blk_grown h1 hg2 (by intro e; injection e with e; exact hne e), h2, hb1.grown hg2 hb1.size (fun k hk => by injection hk with hk; omega)⟩⟩
end Go.Proofs.Ytcjabfdjngekfaa.Ord
