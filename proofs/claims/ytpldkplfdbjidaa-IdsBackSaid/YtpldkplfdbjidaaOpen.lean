/- Opening arguments: what a reading says of a slice that came in. -/
import Derived.Test.YtpldkplfdbjidaaWd
import Derived.ProofKit
import Derived.OpenShut
set_option linter.unusedVariables false
set_option linter.unusedSimpArgs false
namespace Go.Proofs.Ytpldkplfdbjidaa.Opn
open Go.RowKit Go.Proofs.Ytpldkplfdbjidaa.Wd Go.ChangeShapes Go.WideShapes Go.ChangeAt

variable {H : Type} {enc : TypeId × Value → H} {P : Program} {w : World} {spare : Nat → Bool} {held : Bool}

theorem plain_of_cell {a : Addr} {u : Value} (h : w.cell? a = some u) : a = ⟨a.block, a.off, none⟩ := by
  obtain ⟨b, o, s⟩ := a
  unfold World.cell? at h
  cases s with
  | none => rfl
  | some s =>
    exfalso
    simp at h
    split at h <;> simp_all

theorem flatten_len {α : Type} (xs : List (List α)) (k : Nat) (h : ∀ x ∈ xs, x.length = k) : xs.flatten.length = xs.length * k := by
  induction xs with
  | nil => simp
  | cons x xs ih =>
    rw [List.flatten_cons, List.length_append, ih (fun y hy => h y (List.mem_cons_of_mem _ hy)), h x List.mem_cons_self, List.length_cons, Nat.add_mul]
    omega
theorem flatten_get {α : Type} (xs : List (List α)) (k : Nat) (h : ∀ x ∈ xs, x.length = k) (i j : Nat) (hi : i < xs.length) (hj : j < k) : xs.flatten[i * k + j]? = (xs[i])[j]? := by
  induction xs generalizing i with
  | nil => simp at hi
  | cons x xs ih =>
    have hx := h x List.mem_cons_self
    rw [List.flatten_cons]
    cases i with
    | zero => rw [Nat.zero_mul, Nat.zero_add, List.getElem?_append_left (by omega)]; rfl
    | succ i =>
      rw [List.getElem?_append_right (by rw [Nat.add_mul]; omega), hx, show (i + 1) * k + j - k = i * k + j by rw [Nat.add_mul]; omega]
      exact ih (fun y hy => h y (List.mem_cons_of_mem _ hy)) i (by simpa using hi)

/-- A slice that came in: its elements' cells, each of which reads. -/
theorem open_slice {t e : TypeId} {v : Value} {d : DataW H} {p : List MemPlace} {r : Reach} {base : Nat} (ht : P.underlying t = some (.slice e)) (hc : 0 < P.cellsOf e)
    (hv : Value.okWide P w r base t v) (h : DataW.Trod enc P w 0 spare held t v d p) :
    ∃ xs : List (List Value), Rd w (P.cellsOf e) v xs.length xs.flatten ∧ ∀ x ∈ xs, x.length = P.cellsOf e ∧ ∃ fuel y, DataW.trod enc P w 0 spare held fuel e x = some y := by
  obtain ⟨a, n, c, rfl⟩ := okWide_slice ht hv
  obtain ⟨fuel, h⟩ := h
  rcases DataW.trod_slice ht h with ⟨hcs, _⟩ | ⟨ad, len, cap, elems, rest, m, _, hcs, _, hb, hl, hm, hlen, hel, _, _⟩
  · simp [Value.cells] at hcs
    obtain ⟨rfl, rfl, rfl⟩ := hcs
    exact ⟨[], Rd.nil _ _, by simp⟩
  · simp [Value.cells] at hcs
    obtain ⟨rfl, rfl, rfl⟩ := hcs
    have hx : ∀ i, i < n → ∃ x : List Value, w.cells? 0 (ad.add (i * P.cellsOf e)) (P.cellsOf e) = some x ∧ ∃ y, DataW.trod enc P w 0 spare held m e x = some y := by
      intro i hi
      have h1 := hel i hi
      rw [List.getElem?_eq_getElem (by omega), Option.bind_eq_some_iff] at h1
      obtain ⟨x, h2, h3⟩ := h1
      exact ⟨x, h2, _, h3⟩
    have hall : ∀ k, k ≤ n → ∃ xs : List (List Value), xs.length = k ∧ ∀ i (hi : i < xs.length), w.cells? 0 (ad.add (i * P.cellsOf e)) (P.cellsOf e) = some xs[i] ∧ ∃ y, DataW.trod enc P w 0 spare held m e xs[i] = some y := by
      intro k
      induction k with
      | zero => exact fun _ => ⟨[], rfl, fun i hi => by simp at hi⟩
      | succ k ih =>
        intro hk
        obtain ⟨xs, hxl, hxs⟩ := ih (by omega)
        obtain ⟨x, h1, h2⟩ := hx k (by omega)
        refine ⟨xs ++ [x], by simp [hxl], fun i hi => ?_⟩
        by_cases hik : i < xs.length
        · rw [List.getElem_append_left hik]; exact hxs i hik
        · have : i = xs.length := by simp at hi; omega
          subst this
          simp only [List.getElem_append_right (Nat.le_refl _), Nat.sub_self, List.getElem_cons_zero]
          rw [hxl]
          exact ⟨h1, h2⟩
    obtain ⟨xs, hxl, hxs⟩ := hall n (Nat.le_refl _)
    have hcell : ∀ x ∈ xs, x.length = P.cellsOf e := by
      intro x hx
      obtain ⟨i, hi, rfl⟩ := List.getElem_of_mem hx
      exact (World.cells?_some (hxs i hi).1).2.1
    refine ⟨xs, ⟨flatten_len _ _ hcell, some ad, c, by rw [hxl], by omega, hm, fun h0 => ?_⟩, fun x hx => ?_⟩
    · have h1 := (World.cells?_some (hxs 0 h0).1).2.2 0 hc
      have hl0 : 0 < (xs[0]).length := by rw [hcell _ (List.getElem_mem _)]; exact hc
      rw [List.getElem?_eq_getElem hl0] at h1
      have hz : (ad.add (0 * P.cellsOf e)).add 0 = ad := by simp [Addr.add]
      rw [hz] at h1
      have hp := plain_of_cell h1
      refine ⟨ad.block, ad.off, by rw [← hp], fun i hi => ?_⟩
      have hq : i / P.cellsOf e < xs.length := Nat.div_lt_of_lt_mul (by rw [Nat.mul_comm]; exact hi)
      have hr : i % P.cellsOf e < P.cellsOf e := Nat.mod_lt _ hc
      have h2 := (World.cells?_some (hxs (i / P.cellsOf e) hq).1).2.2 (i % P.cellsOf e) hr
      have he : i / P.cellsOf e * P.cellsOf e + i % P.cellsOf e = i := Nat.div_add_mod' i (P.cellsOf e)
      rw [hp, Wd.add_plain, Wd.add_plain, Nat.add_assoc, he] at h2
      rw [h2, ← flatten_get xs (P.cellsOf e) hcell _ _ hq hr, he]
    · obtain ⟨i, hi, rfl⟩ := List.getElem_of_mem hx
      exact ⟨hcell _ (List.getElem_mem _), m, (hxs i hi).2⟩

theorem flatten_ones {α β : Type} (f : β → α) (xs : List (List α)) (g : List α → β) (h : ∀ x ∈ xs, x = [f (g x)]) : xs.flatten = (xs.map g).map f := by
  induction xs with
  | nil => rfl
  | cons x xs ih =>
    rw [List.flatten_cons, ih (fun y hy => h y (List.mem_cons_of_mem _ hy))]
    conv => lhs; rw [h x List.mem_cons_self]
    rfl

def numOf : List Value → Int
  | [.int _ n] => n
  | _ => 0
def strOf : List Value → ByteArray
  | [.string s] => s
  | _ => ByteArray.empty

theorem open_nums {t e : TypeId} {k : IntKind} {v : Value} {d : DataW H} {p : List MemPlace} {r : Reach} {base : Nat} (ht : P.underlying t = some (.slice e)) (he : P.underlying e = some (.int k)) (hc : P.cellsOf e = 1)
    (hv : Value.okWide P w r base t v) (h : DataW.Trod enc P w 0 spare held t v d p) :
    ∃ l : List Int, Rd w 1 v l.length (l.map (Value.int k)) ∧ ∀ x ∈ l, (Lit.int k x).wf = true := by
  obtain ⟨xs, hR, hx⟩ := open_slice ht (by omega) hv h
  rw [hc] at hR
  have each : ∀ x ∈ xs, x = [.int k (numOf x)] ∧ (Lit.int k (numOf x)).wf = true := by
    intro x h1
    obtain ⟨_, fuel, y, h2⟩ := hx x h1
    obtain ⟨n, rfl, _, hw⟩ := DataW.trod_int he h2
    exact ⟨rfl, hw⟩
  refine ⟨xs.map numOf, ?_, ?_⟩
  · rw [flatten_ones (Value.int k) xs numOf (fun x hx => (each x hx).1)] at hR
    simpa using hR
  · intro x hx
    obtain ⟨y, hy, rfl⟩ := List.mem_map.1 hx
    exact (each y hy).2

theorem wf_u8 {n : Int} (h : (Lit.int .u8 n).wf = true) : 0 ≤ n ∧ n < 256 := by
  simp [Lit.wf, IntKind.min, IntKind.max, IntKind.signed, IntKind.bits] at h; omega
theorem wf_u64 {n : Int} (h : (Lit.int .u64 n).wf = true) : 0 ≤ n ∧ n < 18446744073709551616 := by
  simp [Lit.wf, IntKind.min, IntKind.max, IntKind.signed, IntKind.bits] at h; omega
theorem wf_i64 {n : Int} (h : (Lit.int .i64 n).wf = true) : -9223372036854775808 ≤ n ∧ n < 9223372036854775808 := by
  simp [Lit.wf, IntKind.min, IntKind.max, IntKind.signed, IntKind.bits] at h; omega

theorem open_bytes {t e : TypeId} {v : Value} {d : DataW H} {p : List MemPlace} {r : Reach} {base : Nat} (ht : P.underlying t = some (.slice e)) (he : P.underlying e = some (.int .u8)) (hc : P.cellsOf e = 1)
    (hv : Value.okWide P w r base t v) (h : DataW.Trod enc P w 0 spare held t v d p) : ∃ l : List UInt8, Rd w 1 v l.length (bs l) := by
  obtain ⟨l, hR, hw⟩ := open_nums ht he hc hv h
  refine ⟨l.map fun n => UInt8.ofNat n.toNat, ?_⟩
  have he : bs (l.map fun n => UInt8.ofNat n.toNat) = l.map (Value.int .u8) := by
    simp only [bs, List.map_map]
    apply List.map_congr_left
    intro n hn
    have := wf_u8 (hw n hn)
    simp only [Function.comp, UInt8.toNat_ofNat']
    congr 1
    omega
  rw [he, List.length_map]
  exact hR
theorem open_u64s {t e : TypeId} {v : Value} {d : DataW H} {p : List MemPlace} {r : Reach} {base : Nat} (ht : P.underlying t = some (.slice e)) (he : P.underlying e = some (.int .u64)) (hc : P.cellsOf e = 1)
    (hv : Value.okWide P w r base t v) (h : DataW.Trod enc P w 0 spare held t v d p) : ∃ l : List Nat, Rd w 1 v l.length (l.map fun (x : Nat) => Value.int .u64 x) ∧ ∀ x ∈ l, x < 18446744073709551616 := by
  obtain ⟨l, hR, hw⟩ := open_nums ht he hc hv h
  refine ⟨l.map Int.toNat, ?_, ?_⟩
  · have he : (l.map Int.toNat).map (fun (x : Nat) => Value.int .u64 x) = l.map (Value.int .u64) := by
      rw [List.map_map]
      apply List.map_congr_left
      intro n hn
      have := wf_u64 (hw n hn)
      simp only [Function.comp]
      congr 1
      omega
    rw [he, List.length_map]
    exact hR
  · intro x hx
    obtain ⟨y, hy, rfl⟩ := List.mem_map.1 hx
    have := wf_u64 (hw y hy)
    omega
theorem open_ints {t e : TypeId} {v : Value} {d : DataW H} {p : List MemPlace} {r : Reach} {base : Nat} (ht : P.underlying t = some (.slice e)) (he : P.underlying e = some (.int .i64)) (hc : P.cellsOf e = 1)
    (hv : Value.okWide P w r base t v) (h : DataW.Trod enc P w 0 spare held t v d p) : ∃ l : List Int, Rd w 1 v l.length (l.map (Value.int .i64)) ∧ ∀ x ∈ l, -9223372036854775808 ≤ x ∧ x < 9223372036854775808 := by
  obtain ⟨l, hR, hw⟩ := open_nums ht he hc hv h
  exact ⟨l, hR, fun x hx => wf_i64 (hw x hx)⟩
theorem open_strs {t e : TypeId} {v : Value} {d : DataW H} {p : List MemPlace} {r : Reach} {base : Nat} (ht : P.underlying t = some (.slice e)) (he : P.underlying e = some .string) (hc : P.cellsOf e = 1)
    (hv : Value.okWide P w r base t v) (h : DataW.Trod enc P w 0 spare held t v d p) : ∃ l : List ByteArray, Rd w 1 v l.length (l.map Value.string) ∧ ∀ x ∈ l, x.size ≤ maxLen := by
  obtain ⟨xs, hR, hx⟩ := open_slice ht (by omega) hv h
  rw [hc] at hR
  have each : ∀ x ∈ xs, x = [.string (strOf x)] ∧ (strOf x).size ≤ maxLen := by
    intro x h1
    obtain ⟨_, fuel, y, h2⟩ := hx x h1
    obtain ⟨n, rfl, _, hw⟩ := DataW.trod_string he h2
    exact ⟨rfl, hw⟩
  refine ⟨xs.map strOf, ?_, ?_⟩
  · rw [flatten_ones Value.string xs strOf (fun x hx => (each x hx).1)] at hR
    simpa using hR
  · intro x hx
    obtain ⟨y, hy, rfl⟩ := List.mem_map.1 hx
    exact (each y hy).2
end Go.Proofs.Ytpldkplfdbjidaa.Opn
