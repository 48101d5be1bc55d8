/- Laws of no program: copy and clear at elements of several cells, in a row that is known whole. -/
import Derived.Test.YtpldkplfdbjidaaAppO
import Derived.Lib.AppendZerosOnto
import Derived.Lib.Overlaps
import Derived.Laws.CopyRow
set_option linter.unusedVariables false
set_option linter.unusedSimpArgs false
namespace Go.Proofs.Ytpldkplfdbjidaa.Ord
open Go Go.RowKit Go.Proofs.Ytpldkplfdbjidaa.Wd

section
variable {P : Program}
/-- copy, elements of however many cells -/
theorem run_copy_k (w : World) (dT sT ty elem : TypeId) (g o dLen dCap : Nat) (a : Addr) (sLen sCap : Nat) (cur : List Value) (t : TypeId) (cs : List Value) (size k : Nat)
    (hu : P.underlying dT = some (.slice elem)) (hs : (P.info? elem).map (·.size) = some size) (hk : Nat.min sLen dLen = k)
    (hg : w.heap[g]? = some (.cells cur.toArray t (0, 0))) (hn : cs.length = k * size)
    (hsrc : ∀ j v, cs[j]? = some v → w.cell? (a.add j) = some v) (hfit : o + cs.length ≤ cur.length) (h1 : ∀ v ∈ cs, v.oneCell' = true) :
    (Builtin.copy_ #[dT, sT] ty #[.slice (some ⟨g, o, none⟩) dLen dCap, .slice (some a) sLen sCap]).run P w =
      .ok (goInt k) (w.setRow g (cur.take o ++ cs ++ cur.drop (o + cs.length)).toArray) := by
  have hl := run_loadCells_list (P := P) w a cs hsrc
  have hst := run_storeCells_at P g o t cs 0 cur.toArray w hg (by simpa using hfit) h1
  rw [hn] at hl
  cases hq : P.info? elem with
  | none => simp [hq] at hs
  | some i =>
    have hi : i.size = size := by simpa [hq] using hs
    have hk2 : min sLen dLen = k := hk
    simp only [Nat.add_zero] at hst
    simp [Builtin.copy_, run_underlying hu, Builtin.lenOf, Builtin.firstCells, sizeOf, typeInfo, hq, hi, hk2, hl, hst]
section
variable {ops : Array Oper} {rest : List Oper} {o : Oper} {a : Act} {Q : Exit → Act → World → Prop}
theorem wp_copy_run (w : World) {K : Act → World → Prop} (d s : Operand) (t t' : TypeId)
    (ho : o.op = .call { callee := .builtin .copy, args := #[d, s], argTypes := #[t, t'] }) (v u : Value) (hd : a.eval d = v) (hs : a.eval s = u) {v' : Value} {w' : World}
    (hr : (Builtin.copy_ #[t, t'] o.type #[v, u]).run P w = .ok v' w') (h : K (a.put o.dst v') w') : o.wp P a w K Q := by
  unfold Oper.wp execOp
  simp only [ho, resolve, invoke, builtin, Sem.run_bind, Sem.run_pure, Result.andThen_ok, List.map_toArray, List.map_cons, List.map_nil, hd, hs, hr]
  exact h
theorem wpList_copy_run (w : World) (hgd : o.guard = none) (d s : Operand) (t t' : TypeId)
    (ho : o.op = .call { callee := .builtin .copy, args := #[d, s], argTypes := #[t, t'] }) (v u : Value) (hd : a.eval d = v) (hs : a.eval s = u) {v' : Value} {w' : World}
    (hr : (Builtin.copy_ #[t, t'] o.type #[v, u]).run P w = .ok v' w') (h : wpList P ops Q rest (a.put o.dst v') w') : wpList P ops Q (o :: rest) a w :=
  wpList_plain hgd fun _ hK => wp_copy_run w d s t t' ho v u hd hs hr (hK _ _ h)
end
section
variable {ops : Array Oper} {rest : List (Bool × Oper)} {S : World → Prop} {o : Oper} {a : Act} {Q : Exit → Act → World → Prop}
theorem wpOrd_copy_run {w : World} (hw : Region.wanted o (yielded ops a.tmps) = true) (d s : Operand) (t t' : TypeId)
    (ho : o.op = .call { callee := .builtin .copy, args := #[d, s], argTypes := #[t, t'] }) (v u : Value) (hd : a.eval d = v) (hs : a.eval s = u) {v' : Value} {w' : World}
    (hr : (Builtin.copy_ #[t, t'] o.type #[v, u]).run P w = .ok v' w') (h : S w' ∧ WpOrd P ops Q S rest (a.put o.dst v') w') : WpOrd P ops Q S ((true, o) :: rest) a w :=
  wpOrd_call hw (fun K hK => wp_copy_run w d s t t' ho v u hd hs hr (hK _ _ h.1 h.2))
end
theorem setRow_grown (w : World) (g : Nat) (cs : Array Value) : w.grownBy (w.setRow g cs) (some g) :=
  ⟨rfl, rfl, rfl, by simp [World.setRow], fun k hk hne => setRow_other w g k _ (by intro e; exact hne (by rw [e]))⟩
end
theorem append_types {P : Program} {t tx e e' ty : TypeId} (ht : P.underlying t = some (.slice e)) (htx : P.underlying tx = some (.slice e')) {v x : Value} {W : World} : (Builtin.append_ #[t, tx] ty #[v, x]).run P W = (Builtin.append_ #[t, t] ty #[v, x]).run P W := by
  cases v <;> simp [Builtin.append_, run_underlying ht, run_underlying htx]
section
variable {P : Program} {ops : Array Oper} {rest : List Oper} {o : Oper} {a : Act} {Q : Exit → Act → World → Prop}
/-- append(v, ys...), what is appended only read, its type of another name -/
theorem app_row2 {w0 W : World} {t tx e e' : TypeId} {z : Value} {size bytes : Nat} (E : El P t e z size bytes) (htx : P.underlying tx = some (.slice e')) (hgd : o.guard = none) (s x : Operand)
    (ho : o.op = .call { callee := .builtin .append, args := #[s, x], argTypes := #[t, tx] })
    (base : Nat) (v y : Value) (n m : Nat) (xs ys : List Value) (hs : a.eval s = v) (hx : a.eval x = y) (h1 : ∀ u ∈ ys, u.oneCell' = true)
    (HO : W.ownsRow base e size v n xs) (HR : Rd W size y m ys) (HB : Below base w0 W) (hbase : base ≤ W.heap.size) (hl : (n + m) * bytes ≤ 140737488355328)
    (h : ∀ v1 w1, w1.ownsRow base e size v1 (n + m) (xs ++ ys) → Below base w0 w1 → W.grownBy w1 v.ownBlock → (v1.ownBlock = v.ownBlock ∨ ∃ b, v1.ownBlock = some b ∧ W.heap.size ≤ b) → wpList P ops Q rest (a.put o.dst v1) w1) :
    wpList P ops Q (o :: rest) a W := by
  obtain ⟨ht, hinfo, hz, hs0, hb0⟩ := E
  obtain ⟨i0, hi, hzz⟩ := Option.map_eq_some_iff.1 hinfo
  simp only [Prod.mk.injEq] at hzz
  obtain ⟨hz0, hz1, hz2⟩ := hzz
  have hlen : n + m ≤ 140737488355328 := Nat.le_trans (Nat.le_mul_of_pos_right _ hb0) hl
  obtain ⟨hyl, A, c, rfl, hmc, hcm, hcell⟩ := HR
  have hrun : ∃ v1 w1, (Builtin.append_ #[t, t] o.type #[v, .slice A m c]).run P W = .ok v1 w1 ∧ w1.ownsRow base e size v1 (n + m) (xs ++ ys) ∧ W.grownBy w1 v.ownBlock ∧ (v1.ownBlock = v.ownBlock ∨ v1.ownBlock = some W.heap.size) := by
    rcases Nat.eq_zero_or_pos m with h0 | h0
    · subst h0
      obtain rfl : ys = [] := List.eq_nil_of_length_eq_zero (by omega)
      refine ⟨v, W, ?_, by simpa using HO, World.grownBy.refl W _, .inl rfl⟩
      rcases HO.2 with ⟨rfl, hn⟩ | ⟨g, cap, cur, rfl, _, _, hnc, _⟩
      · cases A <;> simp [Builtin.append_, run_underlying ht, sizeOf, typeInfo, hi, Builtin.lenOf, Builtin.firstCells, loadCells, loadCellsFrom]
      · cases A <;> simp [Builtin.append_, run_underlying ht, sizeOf, typeInfo, hi, Builtin.lenOf, Builtin.firstCells, hnc, storeCells, loadCells, loadCellsFrom]
    · obtain ⟨b, off, rfl, hc⟩ := hcell h0
      have hcells : ∀ j u, ys[j]? = some u → W.cell? ((⟨b, off, none⟩ : Addr).add j) = some u := by
        intro j u hu
        have hj : j < ys.length := by
          rcases Nat.lt_or_ge j ys.length with h | h
          · exact h
          · simp [List.getElem?_eq_none h] at hu
        rw [add_plain, hc j (by omega), hu]
      obtain ⟨v1, w1, hr, h2, h3, _, h5⟩ := run_append_own_at (P := P) W base t o.type e i0 z size bytes ht hi hz0 hz1 hz2 hz hs0 v n xs HO _ m c ys (by omega) hcells h1 (by simp only [maxLen]; omega) hl hbase
      exact ⟨v1, w1, hr, h2, h3, h5⟩
  obtain ⟨v1, w1, hr, hown, hg, hat⟩ := hrun
  refine wpList_plain hgd fun K hK => ?_
  unfold Oper.wp execOp
  simp only [ho, resolve, invoke, builtin, Sem.run_bind, Sem.run_pure, Result.andThen_ok, List.map_toArray, List.map_cons, List.map_nil, hs, hx, append_types ht htx, hr]
  refine hK _ _ (h v1 w1 hown (HB.grown hg hbase (own_base HO)) hg ?_)
  rcases hat with hat | hat
  · exact .inl hat
  · exact .inr ⟨_, hat, Nat.le_refl _⟩
end
/-- append(s, make([]T, k)...) where s has no room: a new row, which begins with what s held -/
theorem run_grow_zeros {P : Program} {t tn e : TypeId} {z : Value} {size bytes : Nat} {kn kq : IntKind} (E : El P t e z size bytes) (htn : P.underlying tn = some (.int kn)) (w : World) (g sLen sCap : Nat) (olds : List Value) (hl : olds.length = sLen * size)
    (holds : ∀ j u, olds[j]? = some u → w.cell? ⟨g, j, none⟩ = some u) (k : Nat) (h0 : 0 < k) (hg : sCap < sLen + k) (hb : (sLen + k) * bytes ≤ 140737488355328) :
    ∃ (cap2 : Nat) (N : List Value), (∀ ty, (Builtin.append_ #[t, tn] ty #[.slice (some ⟨g, 0, none⟩) sLen sCap, .int kq k]).run P w = .ok (.slice (some ⟨w.heap.size, 0, none⟩) (sLen + k) cap2) (w.drew.alloc (.cells N.toArray e))) ∧
      sLen + k ≤ cap2 ∧ cap2 ≤ maxLen ∧ N.length = cap2 * size ∧ N.take (sLen * size) = olds := by
  obtain ⟨ht, hinfo, hz, hs0, hb0⟩ := E
  obtain ⟨i0, hi, hzz⟩ := Option.map_eq_some_iff.1 hinfo
  simp only [Prod.mk.injEq] at hzz
  obtain ⟨hz0, hz1, hz2⟩ := hzz
  have hlen : sLen + k ≤ 140737488355328 := Nat.le_trans (Nat.le_mul_of_pos_right _ hb0) hb
  have hkb : k * bytes ≤ 140737488355328 := Nat.le_trans (Nat.mul_le_mul_right _ (by omega)) hb
  have hge := grownCap_ge w (sLen + k) sCap e
  refine ⟨grownCap w (sLen + k) sCap e, olds ++ (Builtin.zeroCells z.cells k).toList ++ (Builtin.zeroCells z.cells (grownCap w (sLen + k) sCap e - (sLen + k))).toList, fun ty => ?_, hge, grownCap_le_maxLen w (sLen + k) sCap e (by simp only [maxLen]; omega), ?_, ?_⟩
  · rw [Lib.run_append_grow_zeros w t tn ty e i0 z kq kn ht htn hi hz0 (some ⟨g, 0, none⟩) sLen sCap olds ?_ k h0 (by omega) hg (by omega) (by rw [hz2]; omega) (by rw [hz2]; exact growslice_fits hg hb)]
    · congr 3
      apply Array.ext'
      simp
    · rw [hz1]
      refine run_firstCells_some w.drew size sLen ⟨g, 0, none⟩ sLen sCap olds hl (fun j u hu => ?_)
      rw [add_plain, Nat.zero_add]
      exact holds j u hu
  · simp only [List.length_append, Array.length_toList, size_zeroCells, hz, hl]
    rw [← Nat.add_mul, ← Nat.add_mul]
    congr 1; omega
  · rw [List.append_assoc, ← hl]; exact List.take_left
/-- what lies in a row that is owned -/
theorem own_open {w : World} {base : Nat} {e : TypeId} {size n : Nat} {v : Value} {xs : List Value} (h : w.ownsRow base e size v n xs) (h0 : 0 < n) :
    ∃ (g cap : Nat) (cur : List Value), v = .slice (some ⟨g, 0, none⟩) n cap ∧ base ≤ g ∧ w.heap[g]? = some (.cells cur.toArray e (0, 0)) ∧ n ≤ cap ∧ cap ≤ maxLen ∧ cur.length = cap * size ∧ cur.take (n * size) = xs := by
  rcases h.2 with ⟨-, h1⟩ | ⟨g, cap, cur, hv, hb, hg, hn, hc, hs, ht⟩
  · omega
  · exact ⟨g, cap, cur.toList, hv, hb, by simpa using hg, hn, hc, by simpa using hs, ht⟩
theorem own_shut {w : World} {base : Nat} {e : TypeId} {size n g cap : Nat} {cur xs : List Value} (hb : base ≤ g) (hg : w.heap[g]? = some (.cells cur.toArray e (0, 0))) (hn : n ≤ cap) (hc : cap ≤ maxLen) (hs : cur.length = cap * size) (ht : cur.take (n * size) = xs) :
    w.ownsRow base e size (.slice (some ⟨g, 0, none⟩) n cap) n xs := by
  refine ⟨?_, .inr ⟨g, cap, cur.toArray, rfl, hb, hg, hn, hc, by simpa using hs, by simpa using ht⟩⟩
  rw [← ht, List.length_take, hs, Nat.min_eq_left (Nat.mul_le_mul_right _ hn)]
/-- an entry put in between, in two steps: what is behind it moved, itself laid -/
theorem ins_place (C xs ev : List Value) (p q s : Nat) (hp : p ≤ q) (hq : q + s ≤ C.length) (hx : C.take q = xs) (he : ev.length = s) :
    (C.take (p + s) ++ xs.drop p ++ C.drop (p + s + (xs.drop p).length)).take p ++ ev ++ (C.take (p + s) ++ xs.drop p ++ C.drop (p + s + (xs.drop p).length)).drop (p + ev.length) = xs.take p ++ ev ++ xs.drop p ++ C.drop (q + s) := by
  have hxl : xs.length = q := by rw [← hx, List.length_take]; omega
  have hdl : (xs.drop p).length = q - p := by rw [List.length_drop, hxl]
  have e1 : (C.take (p + s)).length = p + s := by rw [List.length_take]; omega
  have e2 : (C.take (p + s) ++ xs.drop p ++ C.drop (p + s + (xs.drop p).length)).take p = xs.take p := by
    rw [List.append_assoc, List.take_append_of_le_length (by omega), List.take_take, ← hx, List.take_take]
    congr 1; omega
  rw [e2, he, List.append_assoc (C.take (p + s)), List.drop_left' e1, hdl, show p + s + (q - p) = q + s by omega]
  simp
/-- the same the other way about, in a row that was just made of what is ahead -/
theorem ins_place2 (N xs ev : List Value) (p q s : Nat) (hp : p ≤ q) (hxl : xs.length = q) (hN : q + s ≤ N.length) (hx : N.take p = xs.take p) (he : ev.length = s) :
    (N.take p ++ ev ++ N.drop (p + ev.length)).take (p + s) ++ xs.drop p ++ (N.take p ++ ev ++ N.drop (p + ev.length)).drop (p + s + (xs.drop p).length) = xs.take p ++ ev ++ xs.drop p ++ N.drop (q + s) := by
  have hdl : (xs.drop p).length = q - p := by rw [List.length_drop, hxl]
  have e1 : (N.take p ++ ev).length = p + s := by rw [List.length_append, List.length_take, he]; omega
  have e2 : (N.take p ++ ev ++ N.drop (p + ev.length)).drop (p + s + (xs.drop p).length) = N.drop (q + s) := by
    rw [List.drop_append, List.drop_of_length_le (by omega), List.nil_append, List.drop_drop, e1, hdl, he]
    congr 1; omega
  rw [List.take_left' e1, e2, hx]
end Go.Proofs.Ytpldkplfdbjidaa.Ord
