/- The plain laws inside a round (the wide fence, whatever round): one operation, a list, a region that draws its order. -/
import Derived.Test.YtpldkplfdbjidaaOrdT
import Derived.Test.YtpldkplfdbjidaaWd
import Derived.RangeFuncNested
import Derived.RangeFuncBound
import Derived.RangeFuncCalls
import Derived.RangeFuncLeaves
import Derived.RegionIn
import Derived.OrdersIn
import Derived.OwnWalkIn
set_option linter.unusedVariables false
set_option linter.unusedSimpArgs false
namespace Go.Proofs.Ytpldkplfdbjidaa.Ord
open Go

theorem rowsIn_of_rows {F : Fence} (hF : F.plain = Fence.wide) {n : Nat} {P : Program} {row : String} {args : Array Value} {w : World} {R : Value → World → Prop} (h : Rows P row args w R) : RowsIn F n P row args w R := by
  intro c cs _
  obtain ⟨v, w', r, s⟩ := h c cs
  refine ⟨v, w', r, ?_⟩
  rw [← fenced_plain, hF]
  exact stepsIn_wide.2 s
theorem callsIn_of_calls {F : Fence} (hF : F.plain = Fence.wide) {n : Nat} {P : Program} {f : FuncId} {args : Array Value} {w : World} {R : Ending → World → Prop} (h : Calls P f args w R) : CallsIn F n P f args w R := by
  have h2 : CallsIn F.plain n P f args w R := by rw [hF]; exact callsIn_wide.2 h
  exact h2
theorem Oper.wpIn_of_wp {F : Fence} (hF : F.plain = Fence.wide) {n : Nat} {P : Program} {o : Oper} {a : Act} {w : World} {K : Act → World → Prop} {Q : Exit → Act → World → Prop}
    (hd : ∀ c, o.op ≠ .defer c) (h : o.wp P a w K Q) : o.wpIn F n P a w K Q := by
  have hfn : ∀ f, F.fn f := fun f => by rw [← Fence.plain_fn, hF]; trivial
  have hdep : F.depth.isSome = true → 1 ≤ n := by rw [← Fence.plain_depth, hF]; intro h; cases h
  refine ⟨fun f _ => hfn f, ?_⟩
  rw [Oper.semAt_plain F _ _ hd]
  unfold Oper.wp at h
  generalize (execOp a.eval o).run P w = r at h
  cases r with
  | ok x w' =>
    cases x <;> simp only [Oper.uponIn, Oper.upon] at h ⊢ <;>
      first
        | exact h
        | exact ⟨hdep, callsIn_of_calls hF h⟩
        | exact ⟨hdep, rowsIn_of_rows hF h⟩
  | halt x w' => cases x <;> simp only [Oper.uponIn, Oper.upon] at h ⊢ <;> exact h

theorem wpListIn_of_wp {F : Fence} (hF : F.plain = Fence.wide) {n : Nat} {P : Program} {ops : Array Oper} {rest : List Oper} {o : Oper} {a : Act} {w : World} {Q : Exit → Act → World → Prop}
    (hg : o.guard = none) (hd : ∀ c, o.op ≠ .defer c) (h : ∀ K : Act → World → Prop, (∀ a w, wpListIn F n P ops Q rest a w → K a w) → o.wp P a w K Q) : wpListIn F n P ops Q (o :: rest) a w :=
  wpListIn_plain hg fun K hK => Oper.wpIn_of_wp hF hd (h K hK)
theorem wpListIn_load_mid {F : Fence} (hF : F.plain = Fence.wide) {n : Nat} {P : Program} {ops : Array Oper} {rest : List Oper} {op : Oper} {a : Act} {w : World} {Q : Exit → Act → World → Prop} (hgd : op.guard = none) (ty : TypeId) (x : Operand) (ho : op.op = .load ty x)
    (b o : Nat) (hx : a.eval x = .pointer (some ⟨b, o, none⟩)) (cs : List Value) (d : TypeDesc) (hc : w.rangeAt b o cs)
    (hu : P.underlying ty = some d) (hd : d.isRow = true) (hi : (P.info? ty).map (·.size) = some cs.length)
    (h : wpListIn F n P ops Q rest (a.put op.dst (.agg cs.toArray)) w) : wpListIn F n P ops Q (op :: rest) a w :=
  wpListIn_of_wp hF hgd (fun c => by rw [ho]; intro h; cases h) fun _ hK => wp_load_mid ty x ho b o hx cs d hc hu hd hi (hK _ _ h)
theorem wpListIn_store_mid {F : Fence} (hF : F.plain = Fence.wide) {n : Nat} {P : Program} {ops : Array Oper} {rest : List Oper} {op : Oper} {a : Act} {w : World} {Q : Exit → Act → World → Prop} (hgd : op.guard = none) (ty : TypeId) (x y : Operand) (ho : op.op = .store ty x y)
    (b o : Nat) (cells : Array Value) (hx : a.eval x = .pointer (some ⟨b, o, none⟩)) (hy : a.eval y = .agg cells)
    (ht : w.there b o cells.size) (hi : (P.info? ty).map (·.size) = some cells.size) (h1 : cells.all (·.oneCell') = true)
    (h : wpListIn F n P ops Q rest (a.put op.dst undef) (w.setCells b o cells.toList)) : wpListIn F n P ops Q (op :: rest) a w :=
  wpListIn_of_wp hF hgd (fun c => by rw [ho]; intro h; cases h) fun _ hK => wp_store_mid ty x y ho b o cells hx hy ht hi h1 (hK _ _ h)

/-- Q, but 'False' where the machine has outgrown its memory -/
def NoOut (Q : Exit → Act → World → Prop) : Exit → Act → World → Prop
  | .outgrown, _, _ => False
  | e, a, w => Q e a w
theorem NoOut.normal {Q : Exit → Act → World → Prop} {a : Act} {w : World} (h : Q .normal a w) : NoOut Q .normal a w := h
theorem noBad_imp {Q : Exit → Act → World → Prop} : ∀ (e : Exit) (a : Act) (w : World), NoPanic (NoOut Q) e a w → Q e a w := fun e a w h => by
  cases e <;> first | exact h | exact (h : False).elim

def noDefer (ops : Array Oper) : Bool := ops.all fun o => match o.op with | .defer _ => false | _ => true
theorem noDefer_spec {ops : Array Oper} (h : noDefer ops = true) {i : Nat} {o : Oper} (ho : ops[i]? = some o) : ∀ c, o.op ≠ .defer c := by
  intro c hc
  have := (Array.all_eq_true_iff_forall_mem.1 h) o (Array.mem_of_getElem? ho)
  simp [hc] at this

section
variable {F : Fence} {n : Nat} {P : Program} {ops : Array Oper} {Q : Exit → Act → World → Prop} {md : Region.Mode} {S : World → Prop}
theorem wpOpIn_of_wpOp (hF : F.plain = Fence.wide) (hnd : noDefer ops = true) {i : Nat} {K : Act → World → Prop} {a : Act} {w : World} (h : wpOp P ops (NoPanic (NoOut Q)) i K a w) : wpOpIn F n P ops (NoPanic (NoOut Q)) i K a w := by
  have hfn : ∀ f, F.fn f := fun f => by rw [← Fence.plain_fn, hF]; trivial
  unfold wpOp at h
  unfold wpOpIn
  split
  · rename_i ho; simpa only [ho] using h
  · rename_i o ho
    simp only [ho] at h
    split
    · rename_i hw
      rw [if_pos hw] at h
      rcases h with h | ⟨_, a', w', h⟩
      · exact Oper.wpIn_of_wp hF (noDefer_spec hnd ho) h
      · exact h.elim
    · rename_i hw
      rw [if_neg hw] at h
      exact ⟨fun f _ => hfn f, h⟩
theorem wpAnyIn_of_held (hF : F.plain = Fence.wide) (hnd : noDefer ops = true) : ∀ (fuel : Nat) (listed : Array Bool) (a : Act) (w : World), wpAnyH P md ops (NoPanic (NoOut Q)) S fuel listed a w → wpAnyIn F n P md ops (NoPanic (NoOut Q)) fuel listed a w
  | 0, _, _, _, h => h
  | fuel + 1, _, _, _, h => ⟨h.1, fun i hi => wpOpIn_of_wpOp hF hnd (wpOp_mono (fun a' w' h' => wpAnyIn_of_held hF hnd fuel _ a' w' h'.2) (h.2 i hi))⟩
theorem wpIn_region_ord (hF : F.plain = Fence.wide) {id : Nat} {a : Act} {w : World} (l : List (Bool × Nat)) (S : World → Prop) (hm : P.follows .mixedOrders = true) (hs : Region.noSelect ops = true) (hnd : noDefer ops = true) (hl : l.length = ops.size) (hB : ordOk .any ops l (Array.replicate ops.size false) = true)
    (hS : S w.drew) (h : WpOrd P ops (NoPanic (NoOut Q)) S (ordOps ops l) a w.drew) : (Code.region id ops true).wpIn F n P Q a w :=
  wpIn_mono (wpIn_region_any hm (wpAnyIn_of_held hF hnd _ _ _ _ (hl ▸ wpAnyH_ord hs (fun _ _ _ _ _ h => h) l _ _ _ hB hS h.out))) noBad_imp
theorem wpIn_region_tree (hF : F.plain = Fence.wide) {id : Nat} {a : Act} {w : World} (t : OT Nat) (S : World → Prop) (hm : P.follows .mixedOrders = true) (hs : Region.noSelect ops = true) (hnd : noDefer ops = true) (hl : treeIn ops.size t = true) (hB : treeOk .any ops t ops.size (Array.replicate ops.size false) = true)
    (hS : S w.drew) (h : WpT P ops (NoPanic (NoOut Q)) S (OT.opers ops t) a w.drew) : (Code.region id ops true).wpIn F n P Q a w :=
  wpIn_mono (wpIn_region_any hm (wpAnyIn_of_held hF hnd _ _ _ _ (wpAnyH_tree hs (fun _ _ _ _ _ h => h) t _ _ _ _ hB hS (wpTree_of t _ _ hl h.out)))) noBad_imp
end
theorem wpOrdIn_nil {P : Program} {ops : Array Oper} {Q : Exit → Act → World → Prop} {S : World → Prop} {a : Act} {w : World} (h : Q .normal a w) : WpOrd P ops (NoPanic (NoOut Q)) S [] a w := ⟨NoPanic.normal (NoOut.normal h)⟩
theorem wpTIn_nil {P : Program} {ops : Array Oper} {Q : Exit → Act → World → Prop} {S : World → Prop} {a : Act} {w : World} (h : Q .normal a w) : WpT P ops (NoPanic (NoOut Q)) S .nil a w := ⟨NoPanic.normal (NoOut.normal h)⟩
theorem alloc_setCell (w : World) (c : Array Value) (t : TypeId) (o : Nat) (v : Value) : (w.alloc (.cells c t)).setCell ⟨w.heap.size, o, none⟩ v = w.alloc (.cells (c.setIfInBounds o v) t) := by
  unfold World.setCell World.alloc
  congr 1
  apply Array.ext_getElem?
  intro i
  rw [Array.getElem?_modify]
  by_cases hi : w.heap.size = i
  · subst hi; simp
  · rw [if_neg hi]
    rcases Nat.lt_or_ge i w.heap.size with h | h
    · rw [Array.getElem?_push_lt h, Array.getElem?_push_lt h]
    · rw [Array.getElem?_eq_none (by simp; omega), Array.getElem?_eq_none (by simp; omega)]
theorem alloc_setCells' (w : World) (t : TypeId) : ∀ (l p z : List Value), z.length = l.length → (w.alloc (.cells (p ++ z).toArray t)).setCells w.heap.size p.length l = w.alloc (.cells (p ++ l).toArray t)
  | [], p, z, h => by obtain rfl : z = [] := List.eq_nil_of_length_eq_zero h; rfl
  | v :: l, p, [], h => by simp at h
  | v :: l, p, u :: z, h => by
    have ih := alloc_setCells' w t l (p ++ [v]) z (by simpa using h)
    rw [World.setCells, alloc_setCell]
    simp only [List.append_assoc, List.singleton_append, List.length_append, List.length_singleton] at ih
    rw [← ih]
    congr 3
    simp
/-- a whole array laid over what has just been made -/
theorem alloc_setCells (w : World) (t : TypeId) (z : Array Value) (l : List Value) (h : z.size = l.length) : (w.alloc (.cells z t)).setCells w.heap.size 0 l = w.alloc (.cells l.toArray t) := by
  have := alloc_setCells' w t l [] z.toList (by simpa using h)
  simpa using this
theorem wpListIn_store_new {F : Fence} (hF : F.plain = Fence.wide) {n : Nat} {P : Program} {ops : Array Oper} {rest : List Oper} {op : Oper} {a : Act} {w : World} {z : Array Value} {t : TypeId} {Q : Exit → Act → World → Prop} (hgd : op.guard = none) (ty : TypeId) (x y : Operand) (ho : op.op = .store ty x y)
    (cs : List Value) (hx : a.eval x = .pointer (some ⟨w.heap.size, 0, none⟩)) (hy : a.eval y = .agg cs.toArray) (hz : z.size = cs.length)
    (hi : (P.info? ty).map (·.size) = some cs.length) (h1 : cs.toArray.all (·.oneCell') = true)
    (h : wpListIn F n P ops Q rest (a.put op.dst undef) (w.alloc (.cells cs.toArray t))) : wpListIn F n P ops Q (op :: rest) a (w.alloc (.cells z t)) := by
  refine wpListIn_store_mid hF hgd ty x y ho w.heap.size 0 cs.toArray hx hy ?_ (by simpa using hi) h1 ?_
  · intro j hj
    have hj : j < z.size := by rw [List.size_toArray] at hj; omega
    have hg : (w.alloc (.cells z t)).heap[w.heap.size]? = some (.cells z t (0, 0)) := World.alloc_heap_new w _
    rw [Nat.zero_add, Wd.blk_cell hg j, Array.getElem?_eq_getElem hj]
    exact ⟨rfl, Wd.blk_frozen hg j⟩
  · rw [show cs.toArray.toList = cs from rfl, alloc_setCells w t z cs hz]; exact h
end Go.Proofs.Ytpldkplfdbjidaa.Ord
