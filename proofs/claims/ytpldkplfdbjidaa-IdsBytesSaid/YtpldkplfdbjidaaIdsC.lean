/- Ids' walks: a row of sums cloned; of those that are alike and stand together, the first. -/
import Derived.Test.YtpldkplfdbjidaaOfPure
import Derived.Test.YtpldkplfdbjidaaIdsW
import Derived.Test.YtpldkplfdbjidaaShaNobody
import Derived.Test.YtpldkplfdbjidaaTurnLaw
import Derived.Test.YtpldkplfdbjidaaIdsR
set_option linter.unusedVariables false
set_option linter.unusedSimpArgs false
namespace Go.Proofs.Ytpldkplfdbjidaa.Ord
open Go Go.RowKit Go.Proofs.Ytpldkplfdbjidaa.Wd
theorem run_clear_ids {P : Program} (w : World) (t ty e : TypeId) (z : Value) (g o n c : Nat) (cur : List Value) (te : TypeId) (hu : P.underlying t = some (.slice e)) (hz : ∀ W, (zeroValue e).run P W = .ok z W) (h0 : 0 < n)
    (hg : w.heap[g]? = some (.cells cur.toArray te (0, 0))) (hfit : o + (Builtin.zeroCells z.cells n).size ≤ cur.length) (h1 : ∀ v ∈ (Builtin.zeroCells z.cells n).toList, v.oneCell' = true) :
    (Builtin.clear_ #[t] ty #[.slice (some ⟨g, o, none⟩) n c]).run P w = .ok (.tuple #[]) (w.setRow g (cur.take o ++ (Builtin.zeroCells z.cells n).toList ++ cur.drop (o + (Builtin.zeroCells z.cells n).toList.length)).toArray) := by
  have hst := run_storeCells_at P g o te (Builtin.zeroCells z.cells n).toList 0 cur.toArray w hg (by simpa using hfit) h1
  simp only [Nat.add_zero] at hst
  cases n with
  | zero => omega
  | succ n => simp [Builtin.clear_, run_underlying hu, hz, hst]
theorem wpList_clear_ids {P : Program} {ops : Array Oper} {rest : List Oper} {o : Oper} {a : Act} {Q : Exit → Act → World → Prop} (w : World) (hgd : o.guard = none) (x : Operand) (t : TypeId) (ho : o.op = .call { callee := .builtin .clear, args := #[x], argTypes := #[t] }) (v : Value) (hx : a.eval x = v) {v' : Value} {w' : World}
    (hr : (Builtin.clear_ #[t] o.type #[v]).run P w = .ok v' w') (h : wpList P ops Q rest (a.put o.dst v') w') : wpList P ops Q (o :: rest) a w :=
  wpList_plain hgd fun K hK => by
    unfold Oper.wp execOp
    simp only [ho, resolve, invoke, builtin, Sem.run_bind, Sem.run_pure, Result.andThen_ok, List.map_toArray, List.map_cons, List.map_nil, hx, hr]
    exact hK _ _ h
end Go.Proofs.Ytpldkplfdbjidaa.Ord
namespace Go.Proofs.Ytpldkplfdbjidaa.Ids
open Go.RowKit Go.Proofs.Ytpldkplfdbjidaa.Wd Go.Proofs.Ytpldkplfdbjidaa.Use Go.Proofs.Ytpldkplfdbjidaa.Lay
open Go.Op (bytesLess)

theorem elSums : El Try.prog 33 23 (.agg (bs zid).toArray) 32 32 := ⟨Try.underlying33, by kernel_rfl, rfl, by decide, by decide⟩
set_option maxRecDepth 100000 in
set_option maxHeartbeats 4000000 in
theorem CloneL_any (l : List Id) (v : Value) (w : World) (hv : Rd w 32 v l.length (ix l)) (hn : l.length ≤ 1000000) :
    Calls Try.prog 67 #[v] w fun r w' => ∃ v', r = .returned v' ∧ w'.ownsRow w.heap.size 23 32 v' l.length (ix l) ∧ Below w.heap.size w w' := by
  obtain ⟨A, c, rfl, hc1, hc2, -⟩ := hv.slice_
  unfold maxLen at hc2
  have qn := fun (w : World) (a : Option Addr) (n c : Nat) => Lib.run_eql_slice_nil (P := Try.prog) w 33 _ a n c 0 0 Try.underlying33
  cases A with
  | none =>
    have h0 : l = [] := by
      rcases Nat.eq_zero_or_pos l.length with h | h
      · exact List.length_eq_zero_iff.1 h
      · obtain ⟨b, off, e, -⟩ := hv.at_ h; cases e
    subst h0
    go_enter Try.func67, Try.ntmps67
    go_wp2_with fail
    go_ret
    exact ⟨_, rfl, own_nil _ _ _ _, Below.refl _ _⟩
  | some ad =>
    have hB1 := below_one w (.cells #[] 23)
    have hR := hv.below hB1
    clear hv
    go_enter Try.func67, Try.ntmps67
    go_wp2_with (at_builtin; go_must (refine app_row elSums rfl (.tmp 5) (.tmp 6) rfl w.heap.size _ _ 0 l.length [] (ix l) rfl rfl (bs_oneCell _) (own_empty w _ _ _ (Nat.le_refl _)) hR hB1 hB1.size (by omega) ?_); intro v1 w1 ho1 hB hg1 hat1; clear hg1 hat1; rw [Nat.zero_add, List.nil_append] at ho1)
    go_ret
    exact ⟨_, rfl, ho1, hB⟩
set_option maxRecDepth 100000 in
set_option maxHeartbeats 4000000 in
theorem CloneS_any (l : List Id) (v : Value) (w : World) (hv : Rd w 32 v l.length (ix l)) (hn : l.length ≤ 1000000) :
    Calls Try.prog 73 #[v] w fun r w' => ∃ v', r = .returned v' ∧ w'.ownsRow w.heap.size 23 32 v' l.length (ix l) ∧ Below w.heap.size w w' := by
  obtain ⟨A, c, rfl, hc1, hc2, -⟩ := hv.slice_
  unfold maxLen at hc2
  have qn := fun (w : World) (a : Option Addr) (n c : Nat) => Lib.run_eql_slice_nil (P := Try.prog) w 34 _ a n c 0 0 Try.underlying34
  cases A with
  | none =>
    have h0 : l = [] := by
      rcases Nat.eq_zero_or_pos l.length with h | h
      · exact List.length_eq_zero_iff.1 h
      · obtain ⟨b, off, e, -⟩ := hv.at_ h; cases e
    subst h0
    go_enter Try.func73, Try.ntmps73
    go_wp2_with fail
    go_ret
    exact ⟨_, rfl, own_nil _ _ _ _, Below.refl _ _⟩
  | some ad =>
    have hB1 := below_one w (.cells #[] 23)
    have hR := hv.below hB1
    clear hv
    go_enter Try.func73, Try.ntmps73
    go_wp2_with (at_builtin; go_must (refine app_row elSet rfl (.tmp 5) (.tmp 6) rfl w.heap.size _ _ 0 l.length [] (ix l) rfl rfl (bs_oneCell _) (own_empty w _ _ _ (Nat.le_refl _)) hR hB1 hB1.size (by omega) ?_); intro v1 w1 ho1 hB hg1 hat1; clear hg1 hat1; rw [Nat.zero_add, List.nil_append] at ho1)
    go_ret
    exact ⟨_, rfl, ho1, hB⟩
theorem ix_len {l : List Id} (h : W32 l) : (ix l).length = l.length * 32 := by rw [ix, bs_length, h.flat]
/-- a cell of a row of ids -/
theorem ix_get {l : List Id} (h : W32 l) (k j : Nat) (hk : k < l.length) (hj : j < 32) : (ix l)[k * 32 + j]? = (bs (l.getD k []))[j]? := by
  have hb : bs ((l.flatten.drop (k * 32)).take 32) = ((bs l.flatten).drop (k * 32)).take 32 := by simp only [bs, List.map_take, List.map_drop]
  rw [ix, ← flat_get h k hk, hb, List.getElem?_take, if_pos hj, List.getElem?_drop]
theorem ix_takeR {l : List Id} (h : W32 l) (k : Nat) (hk : k ≤ l.length) : (ix l).take (k * 32) = ix (l.take k) := by
  have e : l = l.take k ++ l.drop k := (List.take_append_drop k l).symm
  have hw : W32 (l.take k) := fun i hi => h i (List.mem_of_mem_take hi)
  have hl : (ix (l.take k)).length = k * 32 := by rw [ix_len hw, List.length_take, Nat.min_eq_left hk]
  conv => lhs; rw [e, ix_append]
  rw [← hl, List.take_left]
/-- what a row holds on the way: in front those that stay, behind those that are still to be looked at -/
structure CR (l : List Id) (cap : Nat) (W : World) (g : Nat) (p : Nat) (cur : List Value) : Prop where
  hp : W.heap[g]? = some (.cells cur.toArray 23 (0, 0))
  ln : cur.length = cap * 32
  fr : cur.take ((ddTo l p).length * 32) = ix (ddTo l p)
  bk : ∀ q, (p - 1) * 32 ≤ q → q < l.length * 32 → cur[q]? = (ix l)[q]?
theorem CR.at_ {l : List Id} {cap : Nat} {W : World} {g p : Nat} {cur : List Value} (h : CR l cap W g p cur) (h32 : W32 l) {k : Nat} (h1 : p - 1 ≤ k) (h2 : k < l.length) : W.rangeAt g (k * 32) (bs (l.getD k [])) := by
  intro j u hu
  have hj : j < 32 := by
    have := (List.getElem?_eq_some_iff.1 hu).1
    rwa [bs_length, h32.get k h2] at this
  rw [blk_cell h.hp]
  simp only [List.getElem?_toArray]
  rw [h.bk _ (by omega) (by omega), ix_get h32 k j h2 hj]
  exact hu
theorem CR.below {l : List Id} {cap : Nat} {W W1 : World} {g p : Nat} {cur : List Value} (h : CR l cap W g p cur) (hb : Below W.heap.size W W1) : CR l cap W1 g p cur :=
  ⟨blk_below h.hp hb, h.ln, h.fr, h.bk⟩
theorem CR.skip {l : List Id} {cap : Nat} {W : World} {g p : Nat} {cur : List Value} (h : CR l cap W g (p + 1) cur) (he : (l.getD (p + 1) [] == l.getD p []) = true) : CR l cap W g (p + 2) cur := by
  have e := ddTo_skip he
  exact ⟨h.hp, h.ln, by rw [e]; exact h.fr, fun q h1 h2 => h.bk q (by omega) h2⟩
theorem CR.keep {l : List Id} {cap : Nat} {W : World} {g p : Nat} {cur : List Value} (h : CR l cap W g (p + 1) cur) (h32 : W32 l) (hp : p + 1 < l.length) (hc : l.length ≤ cap) (hi : (ddTo l (p + 1)).length ≤ p) (he : (l.getD (p + 1) [] == l.getD p []) = false) :
    CR l cap (W.setCells g ((ddTo l (p + 1)).length * 32) (bs (l.getD (p + 1) []))) g (p + 2) (splice cur ((ddTo l (p + 1)).length * 32) (bs (l.getD (p + 1) []))) := by
  have e := ddTo_keep he
  have hx : (l.getD (p + 1) []).length = 32 := h32.get _ hp
  have hln := h.ln
  obtain ⟨i, hie⟩ : ∃ i, i = (ddTo l (p + 1)).length := ⟨_, rfl⟩
  have hfr := h.fr
  rw [← hie] at hi hfr ⊢
  have hf : i * 32 + 32 ≤ cur.length := by omega
  have hil : (cur.take (i * 32)).length = i * 32 := by rw [List.length_take]; omega
  have hbl : (bs (l.getD (p + 1) [])).length = 32 := by rw [bs_length, hx]
  refine ⟨Sha.heap_setCells _ _ _ _ h.hp (by rw [hbl]; exact hf), ?_, ?_, fun q h1 h2 => ?_⟩
  · unfold splice
    simp only [List.length_append, hil, hbl, List.length_drop]; omega
  · rw [e, List.length_append, ← hie, ix_append, ← hfr, List.length_singleton, ix_one]
    unfold splice
    rw [← List.append_assoc, List.take_left' (by simp only [List.length_append, hil, hbl]; omega)]
  · unfold splice
    rw [← List.append_assoc, List.getElem?_append_right (by simp only [List.length_append, hil, hbl]; omega), List.getElem?_drop, ← h.bk q (by omega) h2]
    congr 1
    simp only [List.length_append, hil, hbl]; omega
end Go.Proofs.Ytpldkplfdbjidaa.Ids
