/- Opening arguments: structs and arrays, by their cells. -/
import Derived.Test.YtpldkplfdbjidaaOpenR
import Derived.ChangeArms
set_option linter.unusedVariables false
set_option linter.unusedSimpArgs false
namespace Go.Proofs.Ytpldkplfdbjidaa.Opn
open Go.RowKit Go.Proofs.Ytpldkplfdbjidaa.Wd Go.ChangeShapes Go.WideShapes Go.ChangeAt

variable {H : Type} {enc : TypeId × Value → H} {P : Program} {w : World} {spare : Nat → Bool} {held : Bool}

/-- that these cells, of this type, read -/
def Tr (enc : TypeId × Value → H) (P : Program) (w : World) (spare : Nat → Bool) (held : Bool) (t : TypeId) (cs : List Value) : Prop := ∃ fuel y, DataW.trod enc P w 0 spare held fuel t cs = some y
/-- a struct's fields: one behind the other -/
theorem tr_struct {t : TypeId} {fs : Array Field} {cs : List Value} (ht : P.underlying t = some (.struct fs)) (h : Tr enc P w spare held t cs) :
    cs.length = P.cellsOf t ∧ ∀ (i : Nat) (f : Field), fs[i]? = some f → Tr enc P w spare held f.type ((cs.drop f.offset).take (P.cellsOf f.type)) := by
  obtain ⟨fuel, y, h⟩ := h
  obtain ⟨xs, n, _, _, hl, hx, hf⟩ := DataW.trod_struct ht h
  refine ⟨hl, fun i f hi => ?_⟩
  have h1 := hf i f hi
  have hlt : i < fs.size := (Array.getElem?_eq_some_iff.1 hi).1
  exact ⟨n, xs[i]'(by omega), by rw [h1, List.getElem?_eq_getElem]⟩
theorem tr_array {t e : TypeId} {n : Nat} {cs : List Value} (ht : P.underlying t = some (.array n e)) (h : Tr enc P w spare held t cs) :
    cs.length = P.cellsOf t ∧ ∀ i, i < n → Tr enc P w spare held e ((cs.drop (i * P.cellsOf e)).take (P.cellsOf e)) := by
  obtain ⟨fuel, y, h⟩ := h
  obtain ⟨xs, m, _, _, hl, hx, hf⟩ := DataW.trod_array ht h
  exact ⟨hl, fun i hi => ⟨m, xs[i]'(by omega), by rw [hf i hi, List.getElem?_eq_getElem]⟩⟩
theorem tr_int {t : TypeId} {k : IntKind} {cs : List Value} (ht : P.underlying t = some (.int k)) (h : Tr enc P w spare held t cs) : ∃ n, cs = [.int k n] ∧ (Lit.int k n).wf = true := by
  obtain ⟨fuel, y, h⟩ := h
  obtain ⟨n, rfl, _, hw⟩ := DataW.trod_int ht h
  exact ⟨n, rfl, hw⟩
theorem tr_string {t : TypeId} {cs : List Value} (ht : P.underlying t = some .string) (h : Tr enc P w spare held t cs) : ∃ s, cs = [.string s] ∧ s.size ≤ maxLen := by
  obtain ⟨fuel, y, h⟩ := h
  obtain ⟨n, rfl, _, hw⟩ := DataW.trod_string ht h
  exact ⟨n, rfl, hw⟩
theorem tr_bytes {t e : TypeId} {cs : List Value} (ht : P.underlying t = some (.slice e)) (he : P.underlying e = some (.int .u8)) (hc : P.cellsOf e = 1) (h : Tr enc P w spare held t cs) :
    ∃ (v : Value) (l : List UInt8), cs = [v] ∧ Rd w 1 v l.length (bs l) := by
  obtain ⟨fuel, y, h⟩ := h
  exact open_bytes_in ht he hc h
theorem tr_ints {t e : TypeId} {cs : List Value} (ht : P.underlying t = some (.slice e)) (he : P.underlying e = some (.int .i64)) (hc : P.cellsOf e = 1) (h : Tr enc P w spare held t cs) :
    ∃ (v : Value) (l : List Int), cs = [v] ∧ Rd w 1 v l.length (l.map (Value.int .i64)) ∧ ∀ x ∈ l, -9223372036854775808 ≤ x ∧ x < 9223372036854775808 := by
  obtain ⟨fuel, y, h⟩ := h
  obtain ⟨v, l, h1, h2, h3⟩ := open_nums_in ht he hc h
  exact ⟨v, l, h1, h2, fun x hx => wf_i64 (h3 x hx)⟩
/-- an array of bytes -/
theorem tr_sum {t e : TypeId} {n : Nat} {cs : List Value} (ht : P.underlying t = some (.array n e)) (he : P.underlying e = some (.int .u8)) (hc : P.cellsOf e = 1) (hn : P.cellsOf t = n) (h : Tr enc P w spare held t cs) :
    ∃ l : List UInt8, cs = bs l ∧ l.length = n := by
  obtain ⟨hl, hx⟩ := tr_array ht h
  rw [hn] at hl
  have each : ∀ i (hi : i < cs.length), ∃ c : UInt8, cs[i] = .int .u8 (c.toNat : Int) := by
    intro i hi
    have h1 := hx i (by omega)
    rw [hc, Nat.mul_one, List.drop_eq_getElem_cons hi, List.take_succ_cons, List.take_zero] at h1
    obtain ⟨m, h2, h3⟩ := tr_int he h1
    have h4 := wf_u8 h3
    refine ⟨UInt8.ofNat m.toNat, ?_⟩
    injection h2 with h2
    rw [h2, UInt8.toNat_ofNat']
    congr 1
    omega
  have all : ∀ cs : List Value, (∀ i (hi : i < cs.length), ∃ c : UInt8, cs[i] = .int .u8 (c.toNat : Int)) → ∃ l : List UInt8, cs = bs l := by
    intro cs
    induction cs with
    | nil => exact fun _ => ⟨[], rfl⟩
    | cons c cs ih =>
      intro h
      obtain ⟨x, hx⟩ := h 0 (by simp)
      obtain ⟨l, hl⟩ := ih (fun i hi => h (i + 1) (by simp; omega))
      simp only [List.getElem_cons_zero] at hx
      exact ⟨x :: l, by rw [hx, hl]; rfl⟩
  obtain ⟨l, rfl⟩ := all cs each
  exact ⟨l, rfl, by rw [bs_length] at hl; exact hl⟩
/-- a struct that came in by value -/
theorem open_struct {t : TypeId} {fs : Array Field} {v : Value} {d : DataW H} {p : List MemPlace} {r : Reach} {base : Nat} (ht : P.underlying t = some (.struct fs)) (hv : Value.okWide P w r base t v) (h : DataW.Trod enc P w 0 spare held t v d p) :
    ∃ cs : List Value, v = .agg cs.toArray ∧ Tr enc P w spare held t cs := by
  obtain ⟨cs, rfl, hsz⟩ := okWide_struct ht hv
  obtain ⟨fuel, hf⟩ := h
  exact ⟨cs.toList, by simp, fuel, _, hf⟩
/-- one cell of a list -/
theorem cell1 {cs : List Value} {i : Nat} {v : Value} (h : (cs.drop i).take 1 = [v]) : cs[i]? = some v := by
  have h1 := congrArg (·[0]?) h
  simpa [List.getElem?_take, List.getElem?_drop] using h1
end Go.Proofs.Ytpldkplfdbjidaa.Opn
