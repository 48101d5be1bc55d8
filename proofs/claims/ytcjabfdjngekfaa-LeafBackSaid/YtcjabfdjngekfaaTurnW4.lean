/- Leaves that turn: a leaf without a key. -/
import Derived.Test.YtcjabfdjngekfaaTurnW3
set_option linter.unusedVariables false
set_option linter.unusedSimpArgs false
namespace Go.Proofs.Ytcjabfdjngekfaa.Ord
open Go Go.RowKit Go.Proofs.Ytcjabfdjngekfaa.Wd
theorem run_clear_k {P : Program} (w : World) (t ty e : TypeId) (z : Value) (g o n c : Nat) (cur : List Value) (te : TypeId) (hu : P.underlying t = some (.slice e)) (hz : ∀ W, (zeroValue e).run P W = .ok z W) (h0 : 0 < n)
    (hg : w.heap[g]? = some (.cells cur.toArray te (0, 0))) (hfit : o + (Builtin.zeroCells z.cells n).size ≤ cur.length) (h1 : ∀ v ∈ (Builtin.zeroCells z.cells n).toList, v.oneCell' = true) :
    (Builtin.clear_ #[t] ty #[.slice (some ⟨g, o, none⟩) n c]).run P w = .ok (.tuple #[]) (w.setRow g (cur.take o ++ (Builtin.zeroCells z.cells n).toList ++ cur.drop (o + (Builtin.zeroCells z.cells n).toList.length)).toArray) := by
  have hst := run_storeCells_at P g o te (Builtin.zeroCells z.cells n).toList 0 cur.toArray w hg (by simpa using hfit) h1
  simp only [Nat.add_zero] at hst
  cases n with
  | zero => omega
  | succ n => simp [Builtin.clear_, run_underlying hu, hz, hst]
section
variable {P : Program} {ops : Array Oper} {rest : List Oper} {o : Oper} {a : Act} {Q : Exit → Act → World → Prop}
theorem wpList_clear_run (w : World) (hgd : o.guard = none) (x : Operand) (t : TypeId) (ho : o.op = .call { callee := .builtin .clear, args := #[x], argTypes := #[t] }) (v : Value) (hx : a.eval x = v) {v' : Value} {w' : World}
    (hr : (Builtin.clear_ #[t] o.type #[v]).run P w = .ok v' w') (h : wpList P ops Q rest (a.put o.dst v') w') : wpList P ops Q (o :: rest) a w :=
  wpList_plain hgd fun K hK => by
    unfold Oper.wp execOp
    simp only [ho, resolve, invoke, builtin, Sem.run_bind, Sem.run_pure, Result.andThen_ok, List.map_toArray, List.map_cons, List.map_nil, hx, hr]
    exact hK _ _ h
end
end Go.Proofs.Ytcjabfdjngekfaa.Ord
namespace Go.Proofs.Ytcjabfdjngekfaa.Leaf
open Go.RowKit Go.Proofs.Ytcjabfdjngekfaa.Wd Go.Proofs.Ytcjabfdjngekfaa.Use Go.Proofs.Ytcjabfdjngekfaa.Lay
open Go.Proofs.Ytcjabfdjngekfaa.Rel (env_cells)

set_option maxRecDepth 100000 in
theorem del1_any (e : L) (key : List UInt8) (g0 : Nat) (w : World) (h : w.cell? ⟨g0, 0, none⟩ = some (.string (str key))) :
    Calls Try.prog 120 #[.agg #[.string (str e.key), .int .i64 e.first, .int .i64 e.len], .pointer (some ⟨g0, 0, none⟩)] w fun r w' => r = .returned (.bool (e.key == key)) ∧ Below w.heap.size w w' := by
  have hb := below_one w (.cells #[.string (str e.key), .int .i64 e.first, .int .i64 e.len] 77)
  have hc := cell_below hb h
  have hc2 := env_cells (heap_alloc_new w (.cells #[.string (str e.key), .int .i64 e.first, .int .i64 e.len] 77))
  obtain ⟨W1, hW1⟩ : ∃ W, W = w.alloc (.cells #[.string (str e.key), .int .i64 e.first, .int .i64 e.len] 77) := ⟨_, rfl⟩
  rw [← hW1] at hb hc hc2
  obtain ⟨c0, c1, c2⟩ := hc2
  have HW1 := Lib.hid hW1
  clear hW1 h
  cases hk : (e.key == key) with
  | true =>
    go_enter Try.func120, Try.ntmps120
    go_upto_region 1 with fail
    rw [← HW1.out]
    go_wp2_with fail
    go_ret
    exact ⟨rfl, hb⟩
  | false =>
    go_enter Try.func120, Try.ntmps120
    go_upto_region 1 with fail
    rw [← HW1.out]
    go_wp2_with fail
    go_ret
    exact ⟨rfl, hb⟩
set_option maxRecDepth 100000 in
set_option maxHeartbeats 4000000 in
theorem index_any (l : List L) (v : Value) (key : List UInt8) (g0 : Nat) (w : World) (hv : Rd w 3 v l.length (ls l)) (h : w.cell? ⟨g0, 0, none⟩ = some (.string (str key))) :
    Calls Try.prog 159 #[v, .func (.func 120) #[] #[.pointer (some ⟨g0, 0, none⟩)]] w fun r w' => Below w.heap.size w w' ∧ ((had l key l.length = false ∧ r = .returned (.int .i64 (-1))) ∨ (∃ i : Nat, i < l.length ∧ ky l i = key ∧ had l key i = false ∧ r = .returned (.int .i64 (i : Int)))) := by
  obtain ⟨A, c, rfl, hc1, hc2, -⟩ := hv.slice_
  unfold maxLen at hc2
  have Hv := Lib.hid hv
  have Hc := Lib.hid h
  clear hv h
  go_enter Try.func159, Try.ntmps159
  go_wp2_with fail
  go_loopw [8] (fun i wr => ∃ k : Nat, k ≤ l.length ∧ i = .int .i64 (k : Int) ∧ Hid (had l key k = false) ∧ Below w.heap.size w wr) (fun i _ => l.length - (intOf i).toNat)
  case atStart => exact ⟨0, Nat.zero_le _, rfl, Lib.hid rfl, Below.refl _ _⟩
  case round =>
    obtain ⟨k, hkl, rfl, Hs, hB⟩ := hrel
    by_cases hkn : k < l.length
    rotate_left
    · obtain rfl : k = l.length := by omega
      have hd1 : decide ((l.length : Int) < (l.length : Int)) = false := decide_eq_false (by omega)
      go_wp2_with fail
      go_ret
      exact ⟨hB, .inl ⟨Hs.out, rfl⟩⟩
    obtain ⟨b, off, rfl, hcell⟩ := ents_at (Hv.out.below hB) rfl (by omega)
    obtain ⟨c0, c1, c2⟩ := hcell k hkn
    have hde := fun W h => del1_any (l.getD k L.zero) key g0 W h
    have Hky := Lib.hid (show ky l k = (l.getD k L.zero).key from rfl)
    have Hhd := Lib.hid (show had l key (k + 1) = ((l.getD k L.zero).key == key) by rw [had, Hs.out, Bool.false_or]; rfl)
    generalize l.getD k L.zero = e at c0 c1 c2 hde Hky Hhd
    obtain ⟨ek, first, len⟩ := e
    simp only at c0 c1 c2 hde Hky Hhd
    have hd1 : decide ((k : Int) < (l.length : Int)) = true := decide_eq_true (by omega)
    have hj2 : (k : Int) < (l.length : Int) := by omega
    have Hcw := Lib.hid (cell_below hB Hc.out)
    clear hcell
    cases hk : (ek == key) with
    | true =>
      rw [hk] at hde
      have Hde := Lib.hid hde
      have Hek := Lib.hid (beq_iff_eq.1 hk)
      clear hde hk
      go_wp2_with (go_at_call 120; refine (Hde.out _ Hcw.out).mono ?_; rintro r w2 ⟨rfl, hb2⟩)
      go_ret
      exact ⟨below_go hb2 hB, .inr ⟨k, hkn, by rw [Hky.out]; exact Hek.out, Hs.out, rfl⟩⟩
    | false =>
      rw [hk] at hde
      have Hde := Lib.hid hde
      have Hn := Lib.hid (show had l key (k + 1) = false by rw [Hhd.out, hk])
      clear hde hk
      go_wp2_with (go_at_call 120; refine (Hde.out _ Hcw.out).mono ?_; rintro r w2 ⟨rfl, hb2⟩)
      exact ⟨⟨k + 1, by omega, by go_num, Hn, below_go hb2 hB⟩, by simp only [intOf]; omega⟩
theorem take_set3 (cur : List Value) (p : Nat) (a b c : Value) (h : p + 3 ≤ cur.length) : (((cur.set p a).set (p + 1) b).set (p + 2) c).take (p + 3) = cur.take p ++ [a, b, c] := by
  apply List.ext_getElem?
  intro q
  have hl : (cur.take p).length = p := by rw [List.length_take]; omega
  by_cases h1 : q < p
  · rw [List.getElem?_take, if_pos (by omega), List.getElem?_set_ne (by omega), List.getElem?_set_ne (by omega), List.getElem?_set_ne (by omega), List.getElem?_append_left (by omega), List.getElem?_take, if_pos h1]
  · rw [List.getElem?_append_right (by omega), hl]
    by_cases h2 : q = p
    · subst h2
      rw [List.getElem?_take, if_pos (by omega), List.getElem?_set_ne (by omega), List.getElem?_set_ne (by omega), List.getElem?_set_self (by omega), Nat.sub_self]; rfl
    · by_cases h3 : q = p + 1
      · subst h3
        rw [List.getElem?_take, if_pos (by omega), List.getElem?_set_ne (by omega), List.getElem?_set_self (by simp; omega), show p + 1 - p = 1 by omega]; rfl
      · by_cases h4 : q = p + 2
        · subst h4
          rw [List.getElem?_take, if_pos (by omega), List.getElem?_set_self (by simp; omega), show p + 2 - p = 2 by omega]; rfl
        · rw [List.getElem?_take, if_neg (by omega), List.getElem?_eq_none (by simp; omega)]
theorem set3_far (cur : List Value) (p q : Nat) (a b c : Value) (h : p + 3 ≤ q) : (((cur.set p a).set (p + 1) b).set (p + 2) c)[q]? = cur[q]? := by
  rw [List.getElem?_set_ne (by omega), List.getElem?_set_ne (by omega), List.getElem?_set_ne (by omega)]
theorem without_step (l : List L) (key : List UInt8) (j : Nat) (hj : j < l.length) : without (l.take (j + 1)) key = without (l.take j) key ++ (if (l.getD j L.zero).key == key then [] else [l.getD j L.zero]) := by
  rw [take_succ l j hj, without, List.filter_append, without]
  congr 1
  rw [List.filter_cons, List.filter_nil, bne]
  cases (l.getD j L.zero).key == key <;> rfl
theorem without_le (l : List L) (key : List UInt8) (j : Nat) : (without (l.take j) key).length ≤ j := by
  have h1 : (without (l.take j) key).length ≤ (l.take j).length := List.length_filter_le _ _
  rw [List.length_take] at h1; omega
/-- what a row holds on the way: in front those that stay, behind those that are still to be looked at -/
structure DR (l : List L) (key : List UInt8) (cap : Nat) (W : World) (g g0 : Nat) (j : Nat) (cur : List Value) : Prop where
  hp : W.heap[g]? = some (.cells cur.toArray 77 (0, 0))
  ln : cur.length = cap * 3
  fr : cur.take ((without (l.take j) key).length * 3) = ls (without (l.take j) key)
  bk : ∀ q, j * 3 ≤ q → q < l.length * 3 → cur[q]? = (ls l)[q]?
  ky : W.cell? ⟨g0, 0, none⟩ = some (.string (str key))
theorem DR.cells {l : List L} {key : List UInt8} {cap : Nat} {W : World} {g g0 j : Nat} {cur : List Value} (h : DR l key cap W g g0 j cur) (hj : j < l.length) : W.cell? ⟨g, j * 3, none⟩ = some (.string (str (l.getD j L.zero).key)) ∧ W.cell? ⟨g, j * 3 + 1, none⟩ = some (.int .i64 (l.getD j L.zero).first) ∧ W.cell? ⟨g, j * 3 + 2, none⟩ = some (.int .i64 (l.getD j L.zero).len) := by
  obtain ⟨a, b, c⟩ := ls_get l j hj
  refine ⟨?_, ?_, ?_⟩ <;> rw [blk_cell h.hp] <;> simp only [List.getElem?_toArray]
  · rw [h.bk _ (by omega) (by omega)]; exact a
  · rw [h.bk _ (by omega) (by omega)]; exact b
  · rw [h.bk _ (by omega) (by omega)]; exact c
theorem DR.below {l : List L} {key : List UInt8} {cap : Nat} {W W1 : World} {g g0 j : Nat} {cur : List Value} (h : DR l key cap W g g0 j cur) (hb : Below W.heap.size W W1) : DR l key cap W1 g g0 j cur :=
  ⟨blk_below h.hp hb, h.ln, h.fr, h.bk, cell_below hb h.ky⟩
theorem DR.skip {l : List L} {key : List UInt8} {cap : Nat} {W : World} {g g0 j : Nat} {cur : List Value} (h : DR l key cap W g g0 j cur) (hj : j < l.length) (hk : ((l.getD j L.zero).key == key) = true) : DR l key cap W g g0 (j + 1) cur ∧ (without (l.take (j + 1)) key).length = (without (l.take j) key).length := by
  have e : without (l.take (j + 1)) key = without (l.take j) key := by rw [without_step l key j hj, hk]; simp
  refine ⟨⟨h.hp, h.ln, by rw [e]; exact h.fr, fun q h1 h2 => h.bk q (by omega) h2, h.ky⟩, by rw [e]⟩
theorem DR.keep {l : List L} {key : List UInt8} {cap : Nat} {W : World} {g g0 j i : Nat} {cur : List Value} (h : DR l key cap W g g0 j cur) (hj : j < l.length) (hc : l.length ≤ cap) (hi : i = (without (l.take j) key).length) (hij : i < j) (hg : g ≠ g0) (hk : ((l.getD j L.zero).key == key) = false) :
    DR l key cap (((W.setCell ⟨g, i * 3, none⟩ (.string (str (l.getD j L.zero).key))).setCell ⟨g, i * 3 + 1, none⟩ (.int .i64 (l.getD j L.zero).first)).setCell ⟨g, i * 3 + 2, none⟩ (.int .i64 (l.getD j L.zero).len)) g g0 (j + 1)
      (((cur.set (i * 3) (.string (str (l.getD j L.zero).key))).set (i * 3 + 1) (.int .i64 (l.getD j L.zero).first)).set (i * 3 + 2) (.int .i64 (l.getD j L.zero).len)) ∧ (without (l.take (j + 1)) key).length = i + 1 := by
  have e : without (l.take (j + 1)) key = without (l.take j) key ++ [l.getD j L.zero] := by rw [without_step l key j hj, hk]; simp
  have h3 := blk_set (blk_set (blk_set h.hp (i * 3) (.string (str (l.getD j L.zero).key))) (i * 3 + 1) (.int .i64 (l.getD j L.zero).first)) (i * 3 + 2) (.int .i64 (l.getD j L.zero).len)
  simp only [List.setIfInBounds_toArray] at h3
  have hln := h.ln
  refine ⟨⟨h3, by simp only [List.length_set]; exact hln, ?_, fun q h1 h2 => ?_, ?_⟩, by rw [e, List.length_append, ← hi]; rfl⟩
  · rw [e, List.length_append, ← hi, show (i + [l.getD j L.zero].length) * 3 = i * 3 + 3 by simp; omega, take_set3 _ _ _ _ _ (by omega), hi, h.fr]
    simp [ls, L.cs]
  · rw [set3_far _ _ _ _ _ _ (by omega)]; exact h.bk q (by omega) h2
  · have hk0 := h.ky
    have f : ∀ (W : World) (j : Nat) (u : Value), (W.setCell ⟨g, j, none⟩ u).cell? ⟨g0, 0, none⟩ = W.cell? ⟨g0, 0, none⟩ := fun W j u => by apply World.cell?_setCell_other; intro e; injection e with e; exact hg e
    rw [f, f, f]; exact hk0
end Go.Proofs.Ytcjabfdjngekfaa.Leaf
