/- Structs that are built and stored in a region that draws its order. -/
import Derived.Test.YtcjabfdjngekfaaOrdL
import Derived.Test.YtcjabfdjngekfaaShaConsts
set_option linter.unusedVariables false
set_option linter.unusedSimpArgs false
namespace Go.Proofs.Ytcjabfdjngekfaa.Ord
open Go Go.RowKit Go.Proofs.Ytcjabfdjngekfaa.Wd
theorem wpOrd_build {P : Program} {ops : Array Oper} {Q : Exit → Act → World → Prop} {S : World → Prop} {o : Oper} {l : List (Bool × Oper)} {a : Act} {w : World} (hw : Region.wanted o (yielded ops a.tmps) = true) (t : TypeId) (parts : Array (Nat × Operand)) (ho : o.op = .build t parts)
    (cells : Array Value) (hb : P.built t (parts.map fun (i, x) => (i, a.eval x)).toList = some cells) (h : WpOrd P ops Q S l (a.put o.dst (.agg cells)) w) : WpOrd P ops Q S ((false, o) :: l) a w :=
  wpOrd_take hw (fun w' _ => by
    unfold execOp
    simp only [ho, Sem.run_bind, run_build w' t _ cells hb, Result.andThen_ok]
    rfl) h
theorem wpOrd_store_all {P : Program} {ops : Array Oper} {Q : Exit → Act → World → Prop} {S : World → Prop} {o : Oper} {l : List (Bool × Oper)} {a : Act} {W : World} (hw : Region.wanted o (yielded ops a.tmps) = true) (ty : TypeId) (x y : Operand) (ho : o.op = .store ty x y) (g : Nat) (cs cs0 : List Value)
    (hx : a.eval x = .pointer (some ⟨g, 0, none⟩)) (hy : a.eval y = .agg cs.toArray) (h1 : ∀ v ∈ cs, v.oneCell' = true) (hl : cs.length = cs0.length) (hi : (P.info? ty).map (·.size) = some cs.length) (t : TypeId) (hg : W.heap[g]? = some (.cells cs0.toArray t (0, 0)))
    (h : ∀ W', Hid (W'.heap[g]? = some (.cells cs.toArray t (0, 0))) → W.grownBy W' (some g) → S W' ∧ WpOrd P ops Q S l (a.put o.dst undef) W') : WpOrd P ops Q S ((true, o) :: l) a W := by
  refine wpOrd_call hw (fun K hK => ?_)
  obtain ⟨h2, h3⟩ := h _ (Lib.hid (Sha.heap_setCells_all _ _ cs _ _ hg (by rw [List.size_toArray, hl]))) (Sha.grown_cells _ _ _ _)
  refine wp_store_mid ty x y ho g 0 cs.toArray hx hy ?_ (by rw [List.size_toArray]; exact hi) (all_oneCell_toArray h1) (hK _ _ h2 h3)
  intro j hj
  rw [Nat.zero_add, blk_cell hg j]
  rw [List.size_toArray] at hj
  simp only [List.getElem?_toArray]
  rw [List.getElem?_eq_getElem (by omega)]
  exact ⟨rfl, blk_frozen hg j⟩
/-- a load of a whole struct that is guarded -/
theorem wpList_load_g {P : Program} {ops : Array Oper} {Q : Exit → Act → World → Prop} {rest : List Oper} {o : Oper} {a : Act} {w : World} (hw : Region.wanted o (yielded ops a.tmps) = true) (ty : TypeId) (x : Operand) (ho : o.op = .load ty x)
    (b off : Nat) (hx : a.eval x = .pointer (some ⟨b, off, none⟩)) (cs : List Value) (d : TypeDesc) (hS : w.rangeAt b off cs)
    (hu : P.underlying ty = some d) (hd : d.isRow = true) (hi : (P.info? ty).map (·.size) = some cs.length)
    (h : wpList P ops Q rest (a.put o.dst (.agg cs.toArray)) w) : wpList P ops Q (o :: rest) a w := by
  unfold wpList
  rw [if_pos hw]
  refine .inl ?_
  unfold Oper.wp execOp
  simp only [ho, hx, Instr.loadAt, Instr.sureAddr, Sem.run_bind, Sem.run_pure, Result.andThen_ok, run_loadVar_mid w b off ty cs d hS hu hd hi]
  exact h
end Go.Proofs.Ytcjabfdjngekfaa.Ord
