/- Opening arguments: slices of slices of bytes. -/
import Derived.Test.YtpldkplfdbjidaaOpen
set_option linter.unusedVariables false
set_option linter.unusedSimpArgs false
namespace Go.Proofs.Ytpldkplfdbjidaa.Opn
open Go.RowKit Go.Proofs.Ytpldkplfdbjidaa.Wd Go.ChangeShapes Go.WideShapes Go.ChangeAt

variable {H : Type} {enc : TypeId × Value → H} {P : Program} {w : World} {spare : Nat → Bool} {held : Bool}

/-- A slice among the cells of what came in. -/
theorem open_slice_in {t e : TypeId} {cs : List Value} {fuel : Nat} {x : DataW H × List MemPlace} (ht : P.underlying t = some (.slice e)) (hc : 0 < P.cellsOf e) (h : DataW.trod enc P w 0 spare held fuel t cs = some x) :
    ∃ (v : Value) (xs : List (List Value)), cs = [v] ∧ Rd w (P.cellsOf e) v xs.length xs.flatten ∧ ∀ x ∈ xs, x.length = P.cellsOf e ∧ ∃ fuel y, DataW.trod enc P w 0 spare held fuel e x = some y := by
  rcases DataW.trod_slice ht h with ⟨hcs, _⟩ | ⟨ad, n, cap, elems, rest, m, _, hcs, _, hb, hl, hm, hlen, hel, _, _⟩
  · exact ⟨_, [], hcs, Rd.nil _ _, by simp⟩
  · have hx : ∀ i, i < n → ∃ x : List Value, w.cells? 0 (ad.add (i * P.cellsOf e)) (P.cellsOf e) = some x ∧ ∃ y, DataW.trod enc P w 0 spare held m e x = some y := by
      intro i hi
      have h1 := hel i hi
      rw [List.getElem?_eq_getElem (by omega), Option.bind_eq_some_iff] at h1
      obtain ⟨x, h2, h3⟩ := h1
      exact ⟨x, h2, _, h3⟩
    have hall : ∀ k, k ≤ n → ∃ xs : List (List Value), xs.length = k ∧ ∀ i (hi : i < xs.length), w.cells? 0 (ad.add (i * P.cellsOf e)) (P.cellsOf e) = some xs[i] ∧ ∃ y, DataW.trod enc P w 0 spare held m e xs[i] = some y := by
      intro k
      induction k with
      | zero => exact fun _ => ⟨[], rfl, fun i hi => by simp at hi⟩
      | succ k ih =>
        intro hk
        obtain ⟨xs, hxl, hxs⟩ := ih (by omega)
        obtain ⟨x, h1, h2⟩ := hx k (by omega)
        refine ⟨xs ++ [x], by simp [hxl], fun i hi => ?_⟩
        by_cases hik : i < xs.length
        · rw [List.getElem_append_left hik]; exact hxs i hik
        · have : i = xs.length := by simp at hi; omega
          subst this
          simp only [List.getElem_append_right (Nat.le_refl _), Nat.sub_self, List.getElem_cons_zero]
          rw [hxl]
          exact ⟨h1, h2⟩
    obtain ⟨xs, hxl, hxs⟩ := hall n (Nat.le_refl _)
    have hcell : ∀ x ∈ xs, x.length = P.cellsOf e := by
      intro x hx
      obtain ⟨i, hi, rfl⟩ := List.getElem_of_mem hx
      exact (World.cells?_some (hxs i hi).1).2.1
    refine ⟨_, xs, hcs, ⟨flatten_len _ _ hcell, some ad, cap, by rw [hxl], by omega, hm, fun h0 => ?_⟩, fun x hx => ?_⟩
    · have h1 := (World.cells?_some (hxs 0 h0).1).2.2 0 hc
      have hl0 : 0 < (xs[0]).length := by rw [hcell _ (List.getElem_mem _)]; exact hc
      rw [List.getElem?_eq_getElem hl0] at h1
      have hz : (ad.add (0 * P.cellsOf e)).add 0 = ad := by simp [Addr.add]
      rw [hz] at h1
      have hp := plain_of_cell h1
      refine ⟨ad.block, ad.off, by rw [← hp], fun i hi => ?_⟩
      have hq : i / P.cellsOf e < xs.length := Nat.div_lt_of_lt_mul (by rw [Nat.mul_comm]; exact hi)
      have hr : i % P.cellsOf e < P.cellsOf e := Nat.mod_lt _ hc
      have h2 := (World.cells?_some (hxs (i / P.cellsOf e) hq).1).2.2 (i % P.cellsOf e) hr
      have he : i / P.cellsOf e * P.cellsOf e + i % P.cellsOf e = i := Nat.div_add_mod' i (P.cellsOf e)
      rw [hp, Wd.add_plain, Wd.add_plain, Nat.add_assoc, he] at h2
      rw [h2, ← flatten_get xs (P.cellsOf e) hcell _ _ hq hr, he]
    · obtain ⟨i, hi, rfl⟩ := List.getElem_of_mem hx
      exact ⟨hcell _ (List.getElem_mem _), m, (hxs i hi).2⟩

theorem open_nums_in {t e : TypeId} {k : IntKind} {cs : List Value} {fuel : Nat} {x : DataW H × List MemPlace} (ht : P.underlying t = some (.slice e)) (he : P.underlying e = some (.int k)) (hc : P.cellsOf e = 1) (h : DataW.trod enc P w 0 spare held fuel t cs = some x) :
    ∃ (v : Value) (l : List Int), cs = [v] ∧ Rd w 1 v l.length (l.map (Value.int k)) ∧ ∀ x ∈ l, (Lit.int k x).wf = true := by
  obtain ⟨v, xs, hcs, hR, hx⟩ := open_slice_in ht (by omega) h
  rw [hc] at hR
  have each : ∀ x ∈ xs, x = [.int k (numOf x)] ∧ (Lit.int k (numOf x)).wf = true := by
    intro x h1
    obtain ⟨_, fuel, y, h2⟩ := hx x h1
    obtain ⟨n, rfl, _, hw⟩ := DataW.trod_int he h2
    exact ⟨rfl, hw⟩
  refine ⟨v, xs.map numOf, hcs, ?_, ?_⟩
  · rw [flatten_ones (Value.int k) xs numOf (fun x hx => (each x hx).1)] at hR
    simpa using hR
  · intro x hx
    obtain ⟨y, hy, rfl⟩ := List.mem_map.1 hx
    exact (each y hy).2
theorem open_bytes_in {t e : TypeId} {cs : List Value} {fuel : Nat} {x : DataW H × List MemPlace} (ht : P.underlying t = some (.slice e)) (he : P.underlying e = some (.int .u8)) (hc : P.cellsOf e = 1) (h : DataW.trod enc P w 0 spare held fuel t cs = some x) :
    ∃ (v : Value) (l : List UInt8), cs = [v] ∧ Rd w 1 v l.length (bs l) := by
  obtain ⟨v, l, hcs, hR, hw⟩ := open_nums_in ht he hc h
  refine ⟨v, l.map fun n => UInt8.ofNat n.toNat, hcs, ?_⟩
  have he : bs (l.map fun n => UInt8.ofNat n.toNat) = l.map (Value.int .u8) := by
    simp only [bs, List.map_map]
    apply List.map_congr_left
    intro n hn
    have := wf_u8 (hw n hn)
    simp only [Function.comp, UInt8.toNat_ofNat']
    congr 1
    omega
  rw [he, List.length_map]
  exact hR
/-- rows of bytes -/
theorem open_rows {t e q : TypeId} {v : Value} {d : DataW H} {p : List MemPlace} {r : Reach} {base : Nat} (ht : P.underlying t = some (.slice e)) (he : P.underlying e = some (.slice q)) (hq : P.underlying q = some (.int .u8)) (ce : P.cellsOf e = 1) (cq : P.cellsOf q = 1)
    (hv : Value.okWide P w r base t v) (h : DataW.Trod enc P w 0 spare held t v d p) : ∃ l : List (Value × List UInt8), Rd w 1 v l.length (l.map (·.1)) ∧ ∀ x ∈ l, Rd w 1 x.1 x.2.length (bs x.2) := by
  obtain ⟨xs, hR, hx⟩ := open_slice ht (by omega) hv h
  rw [ce] at hR
  have each : ∀ xs : List (List Value), (∀ x ∈ xs, x.length = P.cellsOf e ∧ ∃ fuel y, DataW.trod enc P w 0 spare held fuel e x = some y) → ∃ l : List (Value × List UInt8), l.length = xs.length ∧ xs.flatten = l.map (·.1) ∧ ∀ x ∈ l, Rd w 1 x.1 x.2.length (bs x.2) := by
    intro xs
    induction xs with
    | nil => exact fun _ => ⟨[], rfl, rfl, by simp⟩
    | cons x xs ih =>
      intro hx
      obtain ⟨l, h1, h2, h3⟩ := ih (fun y hy => hx y (List.mem_cons_of_mem _ hy))
      obtain ⟨_, fuel, y, hy⟩ := hx x List.mem_cons_self
      obtain ⟨u, m, rfl, hu⟩ := open_bytes_in he hq cq hy
      refine ⟨(u, m) :: l, by simp [h1], by simp [h2], ?_⟩
      intro z hz
      rcases List.mem_cons.1 hz with rfl | hz
      · exact hu
      · exact h3 z hz
  obtain ⟨l, h1, h2, h3⟩ := each xs hx
  exact ⟨l, by rw [h1, ← h2]; exact hR, h3⟩
end Go.Proofs.Ytpldkplfdbjidaa.Opn
