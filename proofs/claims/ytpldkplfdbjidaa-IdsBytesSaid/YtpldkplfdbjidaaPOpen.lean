/- Opening arguments: what a reading says of a slice that came in. -/
import Derived.Test.YtpldkplfdbjidaaWd
import Derived.ProofKit
import Derived.OpenShut
import Derived.ChangeArms
import Derived.Test.YtpldkplfdbjidaaUpdW
set_option linter.unusedVariables false
set_option linter.unusedSimpArgs false
namespace Go.Proofs.Ytpldkplfdbjidaa.Opn
open Go.RowKit Go.Proofs.Ytpldkplfdbjidaa.Wd Go.ChangeShapes Go.WideShapes Go.ChangeAt

variable {H : Type} {enc : TypeId × Value → H} {P : Program} {w : World} {spare : Nat → Bool} {held : Bool}

theorem plain_of_cell {a : Addr} {u : Value} (h : w.cell? a = some u) : a = ⟨a.block, a.off, none⟩ := by
  obtain ⟨b, o, s⟩ := a
  unfold World.cell? at h
  cases s with
  | none => rfl
  | some s =>
    exfalso
    simp at h
    split at h <;> simp_all

theorem flatten_len {α : Type} (xs : List (List α)) (k : Nat) (h : ∀ x ∈ xs, x.length = k) : xs.flatten.length = xs.length * k := by
  induction xs with
  | nil => simp
  | cons x xs ih =>
    rw [List.flatten_cons, List.length_append, ih (fun y hy => h y (List.mem_cons_of_mem _ hy)), h x List.mem_cons_self, List.length_cons, Nat.add_mul]
    omega
theorem flatten_get {α : Type} (xs : List (List α)) (k : Nat) (h : ∀ x ∈ xs, x.length = k) (i j : Nat) (hi : i < xs.length) (hj : j < k) : xs.flatten[i * k + j]? = (xs[i])[j]? := by
  induction xs generalizing i with
  | nil => simp at hi
  | cons x xs ih =>
    have hx := h x List.mem_cons_self
    rw [List.flatten_cons]
    cases i with
    | zero => rw [Nat.zero_mul, Nat.zero_add, List.getElem?_append_left (by omega)]; rfl
    | succ i =>
      rw [List.getElem?_append_right (by rw [Nat.add_mul]; omega), hx, show (i + 1) * k + j - k = i * k + j by rw [Nat.add_mul]; omega]
      exact ih (fun y hy => h y (List.mem_cons_of_mem _ hy)) i (by simpa using hi)

/-- A slice that came in: its elements' cells, each of which reads. -/
theorem open_slice {t e : TypeId} {v : Value} {d : DataW H} {p : List MemPlace} {r : Reach} {base : Nat} (ht : P.underlying t = some (.slice e)) (hc : 0 < P.cellsOf e)
    (hv : Value.okWide P w r base t v) (h : DataW.Trod enc P w 0 spare held t v d p) :
    ∃ xs : List (List Value), Rd w (P.cellsOf e) v xs.length xs.flatten ∧ ∀ x ∈ xs, x.length = P.cellsOf e ∧ ∃ fuel y, DataW.trod enc P w 0 spare held fuel e x = some y := by
  obtain ⟨a, n, c, rfl⟩ := okWide_slice ht hv
  obtain ⟨fuel, h⟩ := h
  rcases DataW.trod_slice ht h with ⟨hcs, _⟩ | ⟨ad, len, cap, elems, rest, m, _, hcs, _, hb, hl, hm, hlen, hel, _, _⟩
  · simp [Value.cells] at hcs
    obtain ⟨rfl, rfl, rfl⟩ := hcs
    exact ⟨[], Rd.nil _ _, by simp⟩
  · simp [Value.cells] at hcs
    obtain ⟨rfl, rfl, rfl⟩ := hcs
    have hx : ∀ i, i < n → ∃ x : List Value, w.cells? 0 (ad.add (i * P.cellsOf e)) (P.cellsOf e) = some x ∧ ∃ y, DataW.trod enc P w 0 spare held m e x = some y := by
      intro i hi
      have h1 := hel i hi
      rw [List.getElem?_eq_getElem (by omega), Option.bind_eq_some_iff] at h1
      obtain ⟨x, h2, h3⟩ := h1
      exact ⟨x, h2, _, h3⟩
    have hall : ∀ k, k ≤ n → ∃ xs : List (List Value), xs.length = k ∧ ∀ i (hi : i < xs.length), w.cells? 0 (ad.add (i * P.cellsOf e)) (P.cellsOf e) = some xs[i] ∧ ∃ y, DataW.trod enc P w 0 spare held m e xs[i] = some y := by
      intro k
      induction k with
      | zero => exact fun _ => ⟨[], rfl, fun i hi => by simp at hi⟩
      | succ k ih =>
        intro hk
        obtain ⟨xs, hxl, hxs⟩ := ih (by omega)
        obtain ⟨x, h1, h2⟩ := hx k (by omega)
        refine ⟨xs ++ [x], by simp [hxl], fun i hi => ?_⟩
        by_cases hik : i < xs.length
        · rw [List.getElem_append_left hik]; exact hxs i hik
        · have : i = xs.length := by simp at hi; omega
          subst this
          simp only [List.getElem_append_right (Nat.le_refl _), Nat.sub_self, List.getElem_cons_zero]
          rw [hxl]
          exact ⟨h1, h2⟩
    obtain ⟨xs, hxl, hxs⟩ := hall n (Nat.le_refl _)
    have hcell : ∀ x ∈ xs, x.length = P.cellsOf e := by
      intro x hx
      obtain ⟨i, hi, rfl⟩ := List.getElem_of_mem hx
      exact (World.cells?_some (hxs i hi).1).2.1
    refine ⟨xs, ⟨flatten_len _ _ hcell, some ad, c, by rw [hxl], by omega, hm, fun h0 => ?_⟩, fun x hx => ?_⟩
    · have h1 := (World.cells?_some (hxs 0 h0).1).2.2 0 hc
      have hl0 : 0 < (xs[0]).length := by rw [hcell _ (List.getElem_mem _)]; exact hc
      rw [List.getElem?_eq_getElem hl0] at h1
      have hz : (ad.add (0 * P.cellsOf e)).add 0 = ad := by simp [Addr.add]
      rw [hz] at h1
      have hp := plain_of_cell h1
      refine ⟨ad.block, ad.off, by rw [← hp], fun i hi => ?_⟩
      have hq : i / P.cellsOf e < xs.length := Nat.div_lt_of_lt_mul (by rw [Nat.mul_comm]; exact hi)
      have hr : i % P.cellsOf e < P.cellsOf e := Nat.mod_lt _ hc
      have h2 := (World.cells?_some (hxs (i / P.cellsOf e) hq).1).2.2 (i % P.cellsOf e) hr
      have he : i / P.cellsOf e * P.cellsOf e + i % P.cellsOf e = i := Nat.div_add_mod' i (P.cellsOf e)
      rw [hp, Wd.add_plain, Wd.add_plain, Nat.add_assoc, he] at h2
      rw [h2, ← flatten_get xs (P.cellsOf e) hcell _ _ hq hr, he]
    · obtain ⟨i, hi, rfl⟩ := List.getElem_of_mem hx
      exact ⟨hcell _ (List.getElem_mem _), m, (hxs i hi).2⟩

theorem flatten_ones {α β : Type} (f : β → α) (xs : List (List α)) (g : List α → β) (h : ∀ x ∈ xs, x = [f (g x)]) : xs.flatten = (xs.map g).map f := by
  induction xs with
  | nil => rfl
  | cons x xs ih =>
    rw [List.flatten_cons, ih (fun y hy => h y (List.mem_cons_of_mem _ hy))]
    conv => lhs; rw [h x List.mem_cons_self]
    rfl

def numOf : List Value → Int
  | [.int _ n] => n
  | _ => 0
def strOf : List Value → ByteArray
  | [.string s] => s
  | _ => ByteArray.empty

theorem open_nums {t e : TypeId} {k : IntKind} {v : Value} {d : DataW H} {p : List MemPlace} {r : Reach} {base : Nat} (ht : P.underlying t = some (.slice e)) (he : P.underlying e = some (.int k)) (hc : P.cellsOf e = 1)
    (hv : Value.okWide P w r base t v) (h : DataW.Trod enc P w 0 spare held t v d p) :
    ∃ l : List Int, Rd w 1 v l.length (l.map (Value.int k)) ∧ ∀ x ∈ l, (Lit.int k x).wf = true := by
  obtain ⟨xs, hR, hx⟩ := open_slice ht (by omega) hv h
  rw [hc] at hR
  have each : ∀ x ∈ xs, x = [.int k (numOf x)] ∧ (Lit.int k (numOf x)).wf = true := by
    intro x h1
    obtain ⟨_, fuel, y, h2⟩ := hx x h1
    obtain ⟨n, rfl, _, hw⟩ := DataW.trod_int he h2
    exact ⟨rfl, hw⟩
  refine ⟨xs.map numOf, ?_, ?_⟩
  · rw [flatten_ones (Value.int k) xs numOf (fun x hx => (each x hx).1)] at hR
    simpa using hR
  · intro x hx
    obtain ⟨y, hy, rfl⟩ := List.mem_map.1 hx
    exact (each y hy).2

theorem wf_u8 {n : Int} (h : (Lit.int .u8 n).wf = true) : 0 ≤ n ∧ n < 256 := by
  simp [Lit.wf, IntKind.min, IntKind.max, IntKind.signed, IntKind.bits] at h; omega
theorem wf_u64 {n : Int} (h : (Lit.int .u64 n).wf = true) : 0 ≤ n ∧ n < 18446744073709551616 := by
  simp [Lit.wf, IntKind.min, IntKind.max, IntKind.signed, IntKind.bits] at h; omega
theorem wf_i64 {n : Int} (h : (Lit.int .i64 n).wf = true) : -9223372036854775808 ≤ n ∧ n < 9223372036854775808 := by
  simp [Lit.wf, IntKind.min, IntKind.max, IntKind.signed, IntKind.bits] at h; omega

theorem open_bytes {t e : TypeId} {v : Value} {d : DataW H} {p : List MemPlace} {r : Reach} {base : Nat} (ht : P.underlying t = some (.slice e)) (he : P.underlying e = some (.int .u8)) (hc : P.cellsOf e = 1)
    (hv : Value.okWide P w r base t v) (h : DataW.Trod enc P w 0 spare held t v d p) : ∃ l : List UInt8, Rd w 1 v l.length (bs l) := by
  obtain ⟨l, hR, hw⟩ := open_nums ht he hc hv h
  refine ⟨l.map fun n => UInt8.ofNat n.toNat, ?_⟩
  have he : bs (l.map fun n => UInt8.ofNat n.toNat) = l.map (Value.int .u8) := by
    simp only [bs, List.map_map]
    apply List.map_congr_left
    intro n hn
    have := wf_u8 (hw n hn)
    simp only [Function.comp, UInt8.toNat_ofNat']
    congr 1
    omega
  rw [he, List.length_map]
  exact hR
theorem open_u64s {t e : TypeId} {v : Value} {d : DataW H} {p : List MemPlace} {r : Reach} {base : Nat} (ht : P.underlying t = some (.slice e)) (he : P.underlying e = some (.int .u64)) (hc : P.cellsOf e = 1)
    (hv : Value.okWide P w r base t v) (h : DataW.Trod enc P w 0 spare held t v d p) : ∃ l : List Nat, Rd w 1 v l.length (l.map fun (x : Nat) => Value.int .u64 x) ∧ ∀ x ∈ l, x < 18446744073709551616 := by
  obtain ⟨l, hR, hw⟩ := open_nums ht he hc hv h
  refine ⟨l.map Int.toNat, ?_, ?_⟩
  · have he : (l.map Int.toNat).map (fun (x : Nat) => Value.int .u64 x) = l.map (Value.int .u64) := by
      rw [List.map_map]
      apply List.map_congr_left
      intro n hn
      have := wf_u64 (hw n hn)
      simp only [Function.comp]
      congr 1
      omega
    rw [he, List.length_map]
    exact hR
  · intro x hx
    obtain ⟨y, hy, rfl⟩ := List.mem_map.1 hx
    have := wf_u64 (hw y hy)
    omega
theorem open_ints {t e : TypeId} {v : Value} {d : DataW H} {p : List MemPlace} {r : Reach} {base : Nat} (ht : P.underlying t = some (.slice e)) (he : P.underlying e = some (.int .i64)) (hc : P.cellsOf e = 1)
    (hv : Value.okWide P w r base t v) (h : DataW.Trod enc P w 0 spare held t v d p) : ∃ l : List Int, Rd w 1 v l.length (l.map (Value.int .i64)) ∧ ∀ x ∈ l, -9223372036854775808 ≤ x ∧ x < 9223372036854775808 := by
  obtain ⟨l, hR, hw⟩ := open_nums ht he hc hv h
  exact ⟨l, hR, fun x hx => wf_i64 (hw x hx)⟩
theorem open_strs {t e : TypeId} {v : Value} {d : DataW H} {p : List MemPlace} {r : Reach} {base : Nat} (ht : P.underlying t = some (.slice e)) (he : P.underlying e = some .string) (hc : P.cellsOf e = 1)
    (hv : Value.okWide P w r base t v) (h : DataW.Trod enc P w 0 spare held t v d p) : ∃ l : List ByteArray, Rd w 1 v l.length (l.map Value.string) ∧ ∀ x ∈ l, x.size ≤ maxLen := by
  obtain ⟨xs, hR, hx⟩ := open_slice ht (by omega) hv h
  rw [hc] at hR
  have each : ∀ x ∈ xs, x = [.string (strOf x)] ∧ (strOf x).size ≤ maxLen := by
    intro x h1
    obtain ⟨_, fuel, y, h2⟩ := hx x h1
    obtain ⟨n, rfl, _, hw⟩ := DataW.trod_string he h2
    exact ⟨rfl, hw⟩
  refine ⟨xs.map strOf, ?_, ?_⟩
  · rw [flatten_ones Value.string xs strOf (fun x hx => (each x hx).1)] at hR
    simpa using hR
  · intro x hx
    obtain ⟨y, hy, rfl⟩ := List.mem_map.1 hx
    exact (each y hy).2
end Go.Proofs.Ytpldkplfdbjidaa.Opn
set_option linter.unusedVariables false
set_option linter.unusedSimpArgs false
namespace Go.Proofs.Ytpldkplfdbjidaa.Opn
open Go.RowKit Go.Proofs.Ytpldkplfdbjidaa.Wd Go.ChangeShapes Go.WideShapes Go.ChangeAt

variable {H : Type} {enc : TypeId × Value → H} {P : Program} {w : World} {spare : Nat → Bool} {held : Bool}

/-- A slice among the cells of what came in. -/
theorem open_slice_in {t e : TypeId} {cs : List Value} {fuel : Nat} {x : DataW H × List MemPlace} (ht : P.underlying t = some (.slice e)) (hc : 0 < P.cellsOf e) (h : DataW.trod enc P w 0 spare held fuel t cs = some x) :
    ∃ (v : Value) (xs : List (List Value)), cs = [v] ∧ Rd w (P.cellsOf e) v xs.length xs.flatten ∧ ∀ x ∈ xs, x.length = P.cellsOf e ∧ ∃ fuel y, DataW.trod enc P w 0 spare held fuel e x = some y := by
  rcases DataW.trod_slice ht h with ⟨hcs, _⟩ | ⟨ad, n, cap, elems, rest, m, _, hcs, _, hb, hl, hm, hlen, hel, _, _⟩
  · exact ⟨_, [], hcs, Rd.nil _ _, by simp⟩
  · have hx : ∀ i, i < n → ∃ x : List Value, w.cells? 0 (ad.add (i * P.cellsOf e)) (P.cellsOf e) = some x ∧ ∃ y, DataW.trod enc P w 0 spare held m e x = some y := by
      intro i hi
      have h1 := hel i hi
      rw [List.getElem?_eq_getElem (by omega), Option.bind_eq_some_iff] at h1
      obtain ⟨x, h2, h3⟩ := h1
      exact ⟨x, h2, _, h3⟩
    have hall : ∀ k, k ≤ n → ∃ xs : List (List Value), xs.length = k ∧ ∀ i (hi : i < xs.length), w.cells? 0 (ad.add (i * P.cellsOf e)) (P.cellsOf e) = some xs[i] ∧ ∃ y, DataW.trod enc P w 0 spare held m e xs[i] = some y := by
      intro k
      induction k with
      | zero => exact fun _ => ⟨[], rfl, fun i hi => by simp at hi⟩
      | succ k ih =>
        intro hk
        obtain ⟨xs, hxl, hxs⟩ := ih (by omega)
        obtain ⟨x, h1, h2⟩ := hx k (by omega)
        refine ⟨xs ++ [x], by simp [hxl], fun i hi => ?_⟩
        by_cases hik : i < xs.length
        · rw [List.getElem_append_left hik]; exact hxs i hik
        · have : i = xs.length := by simp at hi; omega
          subst this
          simp only [List.getElem_append_right (Nat.le_refl _), Nat.sub_self, List.getElem_cons_zero]
          rw [hxl]
          exact ⟨h1, h2⟩
    obtain ⟨xs, hxl, hxs⟩ := hall n (Nat.le_refl _)
    have hcell : ∀ x ∈ xs, x.length = P.cellsOf e := by
      intro x hx
      obtain ⟨i, hi, rfl⟩ := List.getElem_of_mem hx
      exact (World.cells?_some (hxs i hi).1).2.1
    refine ⟨_, xs, hcs, ⟨flatten_len _ _ hcell, some ad, cap, by rw [hxl], by omega, hm, fun h0 => ?_⟩, fun x hx => ?_⟩
    · have h1 := (World.cells?_some (hxs 0 h0).1).2.2 0 hc
      have hl0 : 0 < (xs[0]).length := by rw [hcell _ (List.getElem_mem _)]; exact hc
      rw [List.getElem?_eq_getElem hl0] at h1
      have hz : (ad.add (0 * P.cellsOf e)).add 0 = ad := by simp [Addr.add]
      rw [hz] at h1
      have hp := plain_of_cell h1
      refine ⟨ad.block, ad.off, by rw [← hp], fun i hi => ?_⟩
      have hq : i / P.cellsOf e < xs.length := Nat.div_lt_of_lt_mul (by rw [Nat.mul_comm]; exact hi)
      have hr : i % P.cellsOf e < P.cellsOf e := Nat.mod_lt _ hc
      have h2 := (World.cells?_some (hxs (i / P.cellsOf e) hq).1).2.2 (i % P.cellsOf e) hr
      have he : i / P.cellsOf e * P.cellsOf e + i % P.cellsOf e = i := Nat.div_add_mod' i (P.cellsOf e)
      rw [hp, Wd.add_plain, Wd.add_plain, Nat.add_assoc, he] at h2
      rw [h2, ← flatten_get xs (P.cellsOf e) hcell _ _ hq hr, he]
    · obtain ⟨i, hi, rfl⟩ := List.getElem_of_mem hx
      exact ⟨hcell _ (List.getElem_mem _), m, (hxs i hi).2⟩

theorem open_nums_in {t e : TypeId} {k : IntKind} {cs : List Value} {fuel : Nat} {x : DataW H × List MemPlace} (ht : P.underlying t = some (.slice e)) (he : P.underlying e = some (.int k)) (hc : P.cellsOf e = 1) (h : DataW.trod enc P w 0 spare held fuel t cs = some x) :
    ∃ (v : Value) (l : List Int), cs = [v] ∧ Rd w 1 v l.length (l.map (Value.int k)) ∧ ∀ x ∈ l, (Lit.int k x).wf = true := by
  obtain ⟨v, xs, hcs, hR, hx⟩ := open_slice_in ht (by omega) h
  rw [hc] at hR
  have each : ∀ x ∈ xs, x = [.int k (numOf x)] ∧ (Lit.int k (numOf x)).wf = true := by
    intro x h1
    obtain ⟨_, fuel, y, h2⟩ := hx x h1
    obtain ⟨n, rfl, _, hw⟩ := DataW.trod_int he h2
    exact ⟨rfl, hw⟩
  refine ⟨v, xs.map numOf, hcs, ?_, ?_⟩
  · rw [flatten_ones (Value.int k) xs numOf (fun x hx => (each x hx).1)] at hR
    simpa using hR
  · intro x hx
    obtain ⟨y, hy, rfl⟩ := List.mem_map.1 hx
    exact (each y hy).2
theorem open_bytes_in {t e : TypeId} {cs : List Value} {fuel : Nat} {x : DataW H × List MemPlace} (ht : P.underlying t = some (.slice e)) (he : P.underlying e = some (.int .u8)) (hc : P.cellsOf e = 1) (h : DataW.trod enc P w 0 spare held fuel t cs = some x) :
    ∃ (v : Value) (l : List UInt8), cs = [v] ∧ Rd w 1 v l.length (bs l) := by
  obtain ⟨v, l, hcs, hR, hw⟩ := open_nums_in ht he hc h
  refine ⟨v, l.map fun n => UInt8.ofNat n.toNat, hcs, ?_⟩
  have he : bs (l.map fun n => UInt8.ofNat n.toNat) = l.map (Value.int .u8) := by
    simp only [bs, List.map_map]
    apply List.map_congr_left
    intro n hn
    have := wf_u8 (hw n hn)
    simp only [Function.comp, UInt8.toNat_ofNat']
    congr 1
    omega
  rw [he, List.length_map]
  exact hR
/-- rows of bytes -/
theorem open_rows {t e q : TypeId} {v : Value} {d : DataW H} {p : List MemPlace} {r : Reach} {base : Nat} (ht : P.underlying t = some (.slice e)) (he : P.underlying e = some (.slice q)) (hq : P.underlying q = some (.int .u8)) (ce : P.cellsOf e = 1) (cq : P.cellsOf q = 1)
    (hv : Value.okWide P w r base t v) (h : DataW.Trod enc P w 0 spare held t v d p) : ∃ l : List (Value × List UInt8), Rd w 1 v l.length (l.map (·.1)) ∧ ∀ x ∈ l, Rd w 1 x.1 x.2.length (bs x.2) := by
  obtain ⟨xs, hR, hx⟩ := open_slice ht (by omega) hv h
  rw [ce] at hR
  have each : ∀ xs : List (List Value), (∀ x ∈ xs, x.length = P.cellsOf e ∧ ∃ fuel y, DataW.trod enc P w 0 spare held fuel e x = some y) → ∃ l : List (Value × List UInt8), l.length = xs.length ∧ xs.flatten = l.map (·.1) ∧ ∀ x ∈ l, Rd w 1 x.1 x.2.length (bs x.2) := by
    intro xs
    induction xs with
    | nil => exact fun _ => ⟨[], rfl, rfl, by simp⟩
    | cons x xs ih =>
      intro hx
      obtain ⟨l, h1, h2, h3⟩ := ih (fun y hy => hx y (List.mem_cons_of_mem _ hy))
      obtain ⟨_, fuel, y, hy⟩ := hx x List.mem_cons_self
      obtain ⟨u, m, rfl, hu⟩ := open_bytes_in he hq cq hy
      refine ⟨(u, m) :: l, by simp [h1], by simp [h2], ?_⟩
      intro z hz
      rcases List.mem_cons.1 hz with rfl | hz
      · exact hu
      · exact h3 z hz
  obtain ⟨l, h1, h2, h3⟩ := each xs hx
  exact ⟨l, by rw [h1, ← h2]; exact hR, h3⟩
end Go.Proofs.Ytpldkplfdbjidaa.Opn
set_option linter.unusedVariables false
set_option linter.unusedSimpArgs false
namespace Go.Proofs.Ytpldkplfdbjidaa.Opn
open Go.RowKit Go.Proofs.Ytpldkplfdbjidaa.Wd Go.ChangeShapes Go.WideShapes Go.ChangeAt

variable {H : Type} {enc : TypeId × Value → H} {P : Program} {w : World} {spare : Nat → Bool} {held : Bool}

/-- that these cells, of this type, read -/
def Tr (enc : TypeId × Value → H) (P : Program) (w : World) (spare : Nat → Bool) (held : Bool) (t : TypeId) (cs : List Value) : Prop := ∃ fuel y, DataW.trod enc P w 0 spare held fuel t cs = some y
/-- a struct's fields: one behind the other -/
theorem tr_struct {t : TypeId} {fs : Array Field} {cs : List Value} (ht : P.underlying t = some (.struct fs)) (h : Tr enc P w spare held t cs) :
    cs.length = P.cellsOf t ∧ ∀ (i : Nat) (f : Field), fs[i]? = some f → Tr enc P w spare held f.type ((cs.drop f.offset).take (P.cellsOf f.type)) := by
  obtain ⟨fuel, y, h⟩ := h
  obtain ⟨xs, n, _, _, hl, hx, hf⟩ := DataW.trod_struct ht h
  refine ⟨hl, fun i f hi => ?_⟩
  have h1 := hf i f hi
  have hlt : i < fs.size := (Array.getElem?_eq_some_iff.1 hi).1
  exact ⟨n, xs[i]'(by omega), by rw [h1, List.getElem?_eq_getElem]⟩
theorem tr_array {t e : TypeId} {n : Nat} {cs : List Value} (ht : P.underlying t = some (.array n e)) (h : Tr enc P w spare held t cs) :
    cs.length = P.cellsOf t ∧ ∀ i, i < n → Tr enc P w spare held e ((cs.drop (i * P.cellsOf e)).take (P.cellsOf e)) := by
  obtain ⟨fuel, y, h⟩ := h
  obtain ⟨xs, m, _, _, hl, hx, hf⟩ := DataW.trod_array ht h
  exact ⟨hl, fun i hi => ⟨m, xs[i]'(by omega), by rw [hf i hi, List.getElem?_eq_getElem]⟩⟩
theorem tr_int {t : TypeId} {k : IntKind} {cs : List Value} (ht : P.underlying t = some (.int k)) (h : Tr enc P w spare held t cs) : ∃ n, cs = [.int k n] ∧ (Lit.int k n).wf = true := by
  obtain ⟨fuel, y, h⟩ := h
  obtain ⟨n, rfl, _, hw⟩ := DataW.trod_int ht h
  exact ⟨n, rfl, hw⟩
theorem tr_string {t : TypeId} {cs : List Value} (ht : P.underlying t = some .string) (h : Tr enc P w spare held t cs) : ∃ s, cs = [.string s] ∧ s.size ≤ maxLen := by
  obtain ⟨fuel, y, h⟩ := h
  obtain ⟨n, rfl, _, hw⟩ := DataW.trod_string ht h
  exact ⟨n, rfl, hw⟩
theorem tr_bytes {t e : TypeId} {cs : List Value} (ht : P.underlying t = some (.slice e)) (he : P.underlying e = some (.int .u8)) (hc : P.cellsOf e = 1) (h : Tr enc P w spare held t cs) :
    ∃ (v : Value) (l : List UInt8), cs = [v] ∧ Rd w 1 v l.length (bs l) := by
  obtain ⟨fuel, y, h⟩ := h
  exact open_bytes_in ht he hc h
theorem tr_ints {t e : TypeId} {cs : List Value} (ht : P.underlying t = some (.slice e)) (he : P.underlying e = some (.int .i64)) (hc : P.cellsOf e = 1) (h : Tr enc P w spare held t cs) :
    ∃ (v : Value) (l : List Int), cs = [v] ∧ Rd w 1 v l.length (l.map (Value.int .i64)) ∧ ∀ x ∈ l, -9223372036854775808 ≤ x ∧ x < 9223372036854775808 := by
  obtain ⟨fuel, y, h⟩ := h
  obtain ⟨v, l, h1, h2, h3⟩ := open_nums_in ht he hc h
  exact ⟨v, l, h1, h2, fun x hx => wf_i64 (h3 x hx)⟩
/-- an array of bytes -/
theorem tr_sum {t e : TypeId} {n : Nat} {cs : List Value} (ht : P.underlying t = some (.array n e)) (he : P.underlying e = some (.int .u8)) (hc : P.cellsOf e = 1) (hn : P.cellsOf t = n) (h : Tr enc P w spare held t cs) :
    ∃ l : List UInt8, cs = bs l ∧ l.length = n := by
  obtain ⟨hl, hx⟩ := tr_array ht h
  rw [hn] at hl
  have each : ∀ i (hi : i < cs.length), ∃ c : UInt8, cs[i] = .int .u8 (c.toNat : Int) := by
    intro i hi
    have h1 := hx i (by omega)
    rw [hc, Nat.mul_one, List.drop_eq_getElem_cons hi, List.take_succ_cons, List.take_zero] at h1
    obtain ⟨m, h2, h3⟩ := tr_int he h1
    have h4 := wf_u8 h3
    refine ⟨UInt8.ofNat m.toNat, ?_⟩
    injection h2 with h2
    rw [h2, UInt8.toNat_ofNat']
    congr 1
    omega
  have all : ∀ cs : List Value, (∀ i (hi : i < cs.length), ∃ c : UInt8, cs[i] = .int .u8 (c.toNat : Int)) → ∃ l : List UInt8, cs = bs l := by
    intro cs
    induction cs with
    | nil => exact fun _ => ⟨[], rfl⟩
    | cons c cs ih =>
      intro h
      obtain ⟨x, hx⟩ := h 0 (by simp)
      obtain ⟨l, hl⟩ := ih (fun i hi => h (i + 1) (by simp; omega))
      simp only [List.getElem_cons_zero] at hx
      exact ⟨x :: l, by rw [hx, hl]; rfl⟩
  obtain ⟨l, rfl⟩ := all cs each
  exact ⟨l, rfl, by rw [bs_length] at hl; exact hl⟩
/-- a struct that came in by value -/
theorem open_struct {t : TypeId} {fs : Array Field} {v : Value} {d : DataW H} {p : List MemPlace} {r : Reach} {base : Nat} (ht : P.underlying t = some (.struct fs)) (hv : Value.okWide P w r base t v) (h : DataW.Trod enc P w 0 spare held t v d p) :
    ∃ cs : List Value, v = .agg cs.toArray ∧ Tr enc P w spare held t cs := by
  obtain ⟨cs, rfl, hsz⟩ := okWide_struct ht hv
  obtain ⟨fuel, hf⟩ := h
  exact ⟨cs.toList, by simp, fuel, _, hf⟩
/-- one cell of a list -/
theorem cell1 {cs : List Value} {i : Nat} {v : Value} (h : (cs.drop i).take 1 = [v]) : cs[i]? = some v := by
  have h1 := congrArg (·[0]?) h
  simpa [List.getElem?_take, List.getElem?_drop] using h1
end Go.Proofs.Ytpldkplfdbjidaa.Opn
set_option linter.unusedVariables false
set_option linter.unusedSimpArgs false
namespace Go.Proofs.Ytpldkplfdbjidaa.Opn
open Go.RowKit Go.Proofs.Ytpldkplfdbjidaa.Wd Go.ChangeShapes Go.WideShapes Go.ChangeAt
open Go.Proofs.Ytpldkplfdbjidaa.Ids (W32 ix)
open Go.Proofs.Ytpldkplfdbjidaa.Upd (U UIn)

variable {H : Type} {enc : TypeId × Value → H} {w : World} {spare : Nat → Bool} {held : Bool}
theorem dropU {cs : List Value} {n : Nat} {x : Value} (h : (cs.drop n).take 1 = [x]) : cs.drop n = x :: cs.drop (n + 1) := by
  have : cs.drop n = (cs.drop n).take 1 ++ (cs.drop n).drop 1 := (List.take_append_drop 1 _).symm
  rw [this, h, List.drop_drop]; rfl
set_option maxRecDepth 100000 in
theorem tr_sum32 {cs : List Value} (h : Tr enc Try.prog w spare held 23 cs) : ∃ l : List UInt8, cs = bs l ∧ l.length = 32 :=
  tr_sum Try.underlying23 Try.underlying5 (by kernel_rfl) (by kernel_rfl) h
theorem flatten_ids (xs : List (List Value)) (h : ∀ x ∈ xs, ∃ l : List UInt8, x = bs l ∧ l.length = 32) : ∃ l : List Ids.Id, xs.flatten = ix l ∧ l.length = xs.length ∧ W32 l := by
  induction xs with
  | nil => exact ⟨[], rfl, rfl, Ids.W32.nil⟩
  | cons x xs ih =>
    obtain ⟨e, rfl, he⟩ := h x List.mem_cons_self
    obtain ⟨l, h1, h2, h3⟩ := ih (fun y hy => h y (List.mem_cons_of_mem _ hy))
    refine ⟨e :: l, ?_, by simp [h2], fun f hf => ?_⟩
    · rw [List.flatten_cons, h1]; simp [ix, bs_append]
    · rcases List.mem_cons.1 hf with rfl | hf
      · exact he
      · exact h3 f hf
set_option maxRecDepth 100000 in
theorem tr_ids {t : TypeId} {cs : List Value} (ht : Try.prog.underlying t = some (.slice 23)) (h : Tr enc Try.prog w spare held t cs) : ∃ (v : Value) (l : List Ids.Id), cs = [v] ∧ Rd w 32 v l.length (ix l) ∧ W32 l := by
  have hc : Try.prog.cellsOf 23 = 32 := by kernel_rfl
  obtain ⟨fuel, y, h⟩ := h
  obtain ⟨v, xs, rfl, hR, hx⟩ := open_slice_in ht (by rw [hc]; decide) h
  rw [hc] at hR
  obtain ⟨l, h1, h2, h3⟩ := flatten_ids xs (fun x hx1 => by obtain ⟨-, fuel, y, h2⟩ := hx x hx1; exact tr_sum32 ⟨fuel, y, h2⟩)
  rw [h1, ← h2] at hR
  exact ⟨v, l, rfl, hR, h3⟩
set_option maxRecDepth 100000 in
theorem open_ids {t : TypeId} {v : Value} {d : DataW H} {p : List MemPlace} {r : Reach} {base : Nat} (ht : Try.prog.underlying t = some (.slice 23)) (hv : Value.okWide Try.prog w r base t v) (h : DataW.Trod enc Try.prog w 0 spare held t v d p) :
    ∃ l : List Ids.Id, Rd w 32 v l.length (ix l) ∧ W32 l := by
  have hc : Try.prog.cellsOf 23 = 32 := by kernel_rfl
  obtain ⟨xs, hR, hx⟩ := open_slice ht (by rw [hc]; decide) hv h
  rw [hc] at hR
  obtain ⟨l, h1, h2, h3⟩ := flatten_ids xs (fun x hx1 => by obtain ⟨-, fuel, y, h2⟩ := hx x hx1; exact tr_sum32 ⟨fuel, y, h2⟩)
  rw [h1, ← h2] at hR
  exact ⟨l, hR, h3⟩
set_option maxRecDepth 100000 in
theorem okWide_arrU {P : Program} {r : Reach} {base : Nat} {t e : TypeId} {n : Nat} {v : Value} (ht : P.underlying t = some (.array n e)) (h : Value.okWide P w r base t v) : ∃ cs, v = .agg cs ∧ cs.size = P.cellsOf t := by
  simp only [Value.okWide, ht] at h
  obtain ⟨cs, h1, h2, _⟩ := h
  exact ⟨cs, h1, h2⟩
set_option maxRecDepth 100000 in
theorem open_sum {v : Value} {d : DataW H} {p : List MemPlace} {r : Reach} {base : Nat} (hv : Value.okWide Try.prog w r base 23 v) (h : DataW.Trod enc Try.prog w 0 spare held 23 v d p) :
    ∃ l : List UInt8, v = .agg (bs l).toArray ∧ l.length = 32 := by
  obtain ⟨cs, rfl, hsz⟩ := okWide_arrU Try.underlying23 hv
  obtain ⟨fuel, hf⟩ := h
  obtain ⟨l, h1, h2⟩ := tr_sum32 (cs := cs.toList) ⟨fuel, _, hf⟩
  exact ⟨l, by rw [← h1], h2⟩
set_option maxRecDepth 100000 in
theorem tr_upd {cs : List Value} (h : Tr enc Try.prog w spare held 69 cs) : ∃ u pv, cs = [.int .i64 u.au, .int .u64 (u.ct : Int), pv, .int .i64 u.kd, .string (str u.ky), .string (str u.vl)] ∧ UIn w u pv := by
  obtain ⟨hl, hx⟩ := tr_struct Try.underlying69 h
  rw [show Try.prog.cellsOf 69 = 6 by kernel_rfl] at hl
  have c3 : Try.prog.cellsOf 3 = 1 := by kernel_rfl
  have cu : Try.prog.cellsOf 67 = 1 := by kernel_rfl
  have ci : Try.prog.cellsOf 34 = 1 := by kernel_rfl
  have c9 : Try.prog.cellsOf 9 = 1 := by kernel_rfl
  have h0 : Tr enc Try.prog w spare held 3 ((cs.drop 0).take 1) := by rw [← c3]; exact hx 0 _ rfl
  have h1 : Tr enc Try.prog w spare held 67 ((cs.drop 1).take 1) := by rw [← cu]; exact hx 1 _ rfl
  have h2 : Tr enc Try.prog w spare held 34 ((cs.drop 2).take 1) := by rw [← ci]; exact hx 2 _ rfl
  have h3 : Tr enc Try.prog w spare held 3 ((cs.drop 3).take 1) := by
    have h := hx 3 _ rfl
    have h2 : Tr enc Try.prog w spare held 3 ((cs.drop 3).take (Try.prog.cellsOf 3)) := h
    rw [c3] at h2
    exact h2
  have h4 : Tr enc Try.prog w spare held 9 ((cs.drop 4).take 1) := by rw [← c9]; exact hx 4 _ rfl
  have h5 : Tr enc Try.prog w spare held 9 ((cs.drop 5).take 1) := by
    have h := hx 5 _ rfl
    have h2 : Tr enc Try.prog w spare held 9 ((cs.drop 5).take (Try.prog.cellsOf 9)) := h
    rw [c9] at h2
    exact h2
  obtain ⟨a, e0, w0⟩ := tr_int Try.underlying3 h0
  obtain ⟨c, e1, w1⟩ := tr_int Try.underlying67 h1
  obtain ⟨pv, l, e2, hr, h32⟩ := tr_ids Try.underlying34 h2
  obtain ⟨k, e3, w3⟩ := tr_int Try.underlying3 h3
  obtain ⟨s, e4, w4⟩ := tr_string Try.underlying9 h4
  obtain ⟨s', e5, w5⟩ := tr_string Try.underlying9 h5
  have w1' := wf_u64 w1
  have hc : ((c.toNat : Nat) : Int) = c := Int.toNat_of_nonneg w1'.1
  refine ⟨⟨a, c.toNat, l, k, s.data.toList, s'.data.toList⟩, pv, ?_, ⟨hr, h32, wf_i64 w0, wf_i64 w3, by simp only; omega, by rw [data_length]; unfold maxLen at w4; exact w4, by rw [data_length]; unfold maxLen at w5; exact w5⟩⟩
  have e : cs = cs.drop 0 := rfl
  rw [e, dropU e0, dropU e1, dropU e2, dropU e3, dropU e4, dropU e5, List.drop_of_length_le (by omega), str_toList, str_toList, hc]
set_option maxRecDepth 100000 in
theorem open_upd {v : Value} {d : DataW H} {p : List MemPlace} {r : Reach} {base : Nat} (hv : Value.okWide Try.prog w r base 69 v) (h : DataW.Trod enc Try.prog w 0 spare held 69 v d p) :
    ∃ u pv, v = .agg #[.int .i64 u.au, .int .u64 (u.ct : Int), pv, .int .i64 u.kd, .string (str u.ky), .string (str u.vl)] ∧ UIn w u pv := by
  obtain ⟨cs, rfl, ht⟩ := open_struct Try.underlying69 hv h
  obtain ⟨a, vp, rfl, hi⟩ := tr_upd ht
  exact ⟨a, vp, rfl, hi⟩
end Go.Proofs.Ytpldkplfdbjidaa.Opn
