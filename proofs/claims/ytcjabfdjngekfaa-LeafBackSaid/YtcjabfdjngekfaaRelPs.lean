/- Whoever carries an envelope on: plain words for RelayPasses. -/
import Derived.Test.YtcjabfdjngekfaaRelW8
set_option linter.unusedVariables false
set_option linter.unusedSimpArgs false
namespace Go.Proofs.Ytcjabfdjngekfaa.Rel
open Go.RowKit Go.Proofs.Ytcjabfdjngekfaa.Wd Go.Proofs.Ytcjabfdjngekfaa.Use Go.Proofs.Ytcjabfdjngekfaa.Lay

theorem okTo_append (l m : List Int) (k : Nat) (h : k ≤ l.length) : okTo (l ++ m) k = okTo l k := by
  induction k with
  | zero => rfl
  | succ k ih =>
    have h1 : (l ++ m).getD k 0 = l.getD k 0 := by
      rw [List.getD_eq_getElem?_getD, List.getD_eq_getElem?_getD, List.getElem?_append_left (by omega)]
    rw [okTo, okTo, ih (by omega), okAt, okAt, h1, List.take_append_of_le_length (by omega)]
theorem pass_right (e : E) (x : Int) (hr : e.right = true) (hp : peerB x = true) (hc : e.hops.contains x = false) (hl : ¬ (e.hops.length : Int) = e.limit) : E.right ⟨e.hops ++ [x], e.limit, e.inner⟩ = true := by
  obtain ⟨a, b, c, d, f⟩ := right_facts hr
  have h1 : okTo (e.hops ++ [x]) (e.hops ++ [x]).length = true := by
    rw [List.length_append, List.length_singleton, okTo, okTo_append _ _ _ (Nat.le_refl _), f, Bool.true_and, okAt]
    have h2 : (e.hops ++ [x]).getD e.hops.length 0 = x := by
      rw [List.getD_eq_getElem?_getD, List.getElem?_append_right (Nat.le_refl _)]; simp
    rw [h2, List.take_append_of_le_length (Nat.le_refl _), List.take_of_length_le (Nat.le_refl _), hp, hc]; rfl
  simp only [E.right, E.lead, Bool.and_eq_true, decide_eq_true_eq]
  refine ⟨⟨⟨⟨a, b⟩, ?_⟩, d⟩, h1⟩
  rw [List.length_append]
  simp only [List.length_singleton, Int.natCast_add]
  omega
/-- what a round holds: the envelope's block, the reference's -/
structure LS (w W : World) (g : Nat) (e : E) (hv hv2 : Value) : Prop where
  ev : W.heap[w.heap.size]? = some (.cells #[hv, .int .i64 e.limit, .string (str e.inner)] 56 (0, 0))
  rv : W.heap[g]? = some (.cells #[hv2, .int .i64 e.limit, .string (str e.inner)] 57 (0, 0))
  hr : Rd W 1 hv e.hops.length (is e.hops)
  own : W.ownsRow (w.heap.size + 1) 3 1 hv2 e.hops.length (is e.hops)
  n5 : hv2.ownBlock ≠ some g
  m0 : 0 < e.hops.length → hv.ownBlock ≠ some w.heap.size
  m5 : 0 < e.hops.length → hv.ownBlock ≠ some g
  m2 : 0 < e.hops.length → ∀ k, hv2.ownBlock = some k → hv.ownBlock ≠ some k
  lg : w.heap.size < g
  b : Below w.heap.size w W
  lim : I64 e.limit
  hop : ∀ x ∈ e.hops, I64 x
  inner : e.inner.length ≤ 500
/-- a row that reads, carried over writes to another block -/
theorem Rd_grown {w w1 : World} {sz n : Nat} {v : Value} {xs : List Value} {row : Option Nat} (h : Rd w sz v n xs) (hg : w.grownBy w1 row) (hne : 0 < n → ∀ k, row = some k → v.ownBlock ≠ some k) : Rd w1 sz v n xs := by
  rcases Nat.eq_zero_or_pos n with h0 | h0
  · obtain ⟨hl, A, c, rfl, h1, h2, h3⟩ := h
    exact ⟨hl, A, c, rfl, h1, h2, fun h => by omega⟩
  · exact h.grown hg (hne h0)
variable {w W W1 : World} {g : Nat} {e : E} {hv hv2 : Value}
theorem LS.below (h : LS w W g e hv hv2) (hb : Below W.heap.size W W1) : LS w W1 g e hv hv2 :=
  ⟨blk_below h.ev hb, blk_below h.rv hb, h.hr.below hb, own_below h.own hb, h.n5, h.m0, h.m5, h.m2, h.lg, below_go hb h.b, h.lim, h.hop, h.inner⟩
theorem LS.drew (h : LS w W g e hv hv2) : LS w W.drew g e hv hv2 := h.below (Below.refl _ _).drew
theorem LS.ein (h : LS w W g e hv hv2) : EIn W e hv := ⟨h.hr, h.lim, h.hop, by have := h.inner; omega⟩
theorem LS.ein2 (h : LS w W g e hv hv2) : EIn W e hv2 := ⟨Rd.of_own h.own, h.lim, h.hop, by have := h.inner; omega⟩
/-- the reference gets one hop more, then the envelope is the one that was carried on -/
theorem LS.next (h : LS w W g e hv hv2) {x : Int} {v1 hx : Value} (hI : I64 x) (ho : W1.ownsRow (w.heap.size + 1) 3 1 v1 (e.hops.length + 1) (is (e.hops ++ [x]))) (hg : W.grownBy W1 hv2.ownBlock) (hat : v1.ownBlock = hv2.ownBlock ∨ ∃ b, v1.ownBlock = some b ∧ W.heap.size ≤ b)
    {B : Nat} (hB : g < B) (hB2 : w.heap.size < B) (hox : W.ownsRow B 3 1 hx (e.hops.length + 1) (is (e.hops ++ [x]))) (hx2 : ∀ k, hv2.ownBlock = some k → hx.ownBlock ≠ some k) (hx3 : ∀ k, hx.ownBlock = some k → k < W.heap.size) :
    LS w (((((W1.setCell ⟨g, 0, none⟩ v1).setCell ⟨w.heap.size, 0, none⟩ hx).setCell ⟨w.heap.size, 1, none⟩ (.int .i64 e.limit)).setCell ⟨w.heap.size, 2, none⟩ (.string (str e.inner)))) g ⟨e.hops ++ [x], e.limit, e.inner⟩ hx v1 := by
  have hlg := blk_lt h.rv
  have hne : g ≠ w.heap.size := by have := h.lg; omega
  have n1 : v1.ownBlock ≠ some g := by
    rcases hat with e1 | ⟨b, e1, hb⟩
    · rw [e1]; exact h.n5
    · rw [e1]; intro e2; injection e2 with e2; omega
  have hz : some w.heap.size ≠ hv2.ownBlock := fun e => by have := own_base h.own _ e.symm; omega
  have e1 := blk_grown h.ev hg hz
  have r1 := blk_grown h.rv hg (fun e => h.n5 e.symm)
  have r2 := blk_set r1 0 v1
  have e2 := blk_far (g := w.heap.size) e1 (p := ⟨g, 0, none⟩) (by intro e; exact hne e.symm) v1
  have hox1 : W1.ownsRow B 3 1 hx (e.hops.length + 1) (is (e.hops ++ [x])) := own_grown hox hg (fun k hk => hx2 k hk)
  have hox2 := own_set (own_set (own_set (own_set hox1 hB 0 v1) hB2 0 hx) hB2 1 (.int .i64 e.limit)) hB2 2 (.string (str e.inner))
  have hln : (e.hops ++ [x]).length = e.hops.length + 1 := by rw [List.length_append]; rfl
  refine ⟨set3 e2, blk_far (blk_far (blk_far r2 hne _) hne _) hne _, ?_, ?_, n1, fun _ e3 => ?_, fun _ e3 => ?_, fun _ k hk e3 => ?_, h.lg, ?_, h.lim, ?_, h.inner⟩
  · show Rd _ 1 hx (e.hops ++ [x]).length (is (e.hops ++ [x]))
    rw [hln]; exact Rd.of_own hox2
  · show World.ownsRow _ _ _ 1 v1 (e.hops ++ [x]).length (is (e.hops ++ [x]))
    rw [hln]
    exact own_set (own_set (own_set (own_grown ho (grown_setCell _ _ _ _) (fun k hk e => by injection hk with hk; exact n1 (by rw [e, hk]))) (by omega) _ _) (by omega) _ _) (by omega) _ _
  · have := own_base hox _ e3; omega
  · have := own_base hox _ e3; omega
  · rcases hat with e4 | ⟨b, e4, hb⟩
    · exact hx2 k (by rw [← e4]; exact hk) e3
    · rw [e4] at hk; injection hk with hk; have := hx3 k e3; omega
  · exact below_set (below_set (below_set (below_set (h.b.grown hg h.b.size (fun k hk => by have := own_base h.own _ hk; omega)) (by have := h.lg; omega) _ _) (Nat.le_refl _) _ _) (Nat.le_refl _) _ _) (Nat.le_refl _) _ _
  · intro y hy
    rcases List.mem_append.1 hy with hy | hy
    · exact h.hop y hy
    · rw [List.mem_singleton.1 hy]; exact hI
end Go.Proofs.Ytcjabfdjngekfaa.Rel
