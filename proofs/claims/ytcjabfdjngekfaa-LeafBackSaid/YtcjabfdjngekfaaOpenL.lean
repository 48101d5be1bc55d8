/- Opening arguments: entries of leaves. -/
import Derived.Test.YtcjabfdjngekfaaOpenE
import Derived.Test.YtcjabfdjngekfaaLeafW
set_option linter.unusedVariables false
set_option linter.unusedSimpArgs false
namespace Go.Proofs.Ytcjabfdjngekfaa.Opn
open Go.RowKit Go.Proofs.Ytcjabfdjngekfaa.Wd Go.ChangeShapes Go.WideShapes Go.ChangeAt
open Go.Proofs.Ytcjabfdjngekfaa.Leaf (L ls)
open Go.Proofs.Ytcjabfdjngekfaa.Use (I64)

variable {H : Type} {enc : TypeId × Value → H} {w : World} {spare : Nat → Bool} {held : Bool}
set_option maxRecDepth 100000 in
theorem tr_ent {cs : List Value} (h : Tr enc Try.prog w spare held 77 cs) : ∃ e : L, cs = e.cs ∧ e.key.length ≤ maxLen ∧ I64 e.first ∧ I64 e.len := by
  obtain ⟨hl, hx⟩ := tr_struct Try.underlying77 h
  rw [show Try.prog.cellsOf 77 = 3 by kernel_rfl] at hl
  have c3 : Try.prog.cellsOf 3 = 1 := by kernel_rfl
  have c9 : Try.prog.cellsOf 9 = 1 := by kernel_rfl
  have h0 : Tr enc Try.prog w spare held 9 ((cs.drop 0).take 1) := by rw [← c9]; exact hx 0 _ rfl
  have h1 : Tr enc Try.prog w spare held 3 ((cs.drop 1).take 1) := by
    have h := hx 1 _ rfl
    have h2 : Tr enc Try.prog w spare held 3 ((cs.drop 1).take (Try.prog.cellsOf 3)) := h
    rw [c3] at h2
    exact h2
  have h2 : Tr enc Try.prog w spare held 3 ((cs.drop 2).take 1) := by
    have h := hx 2 _ rfl
    have h2 : Tr enc Try.prog w spare held 3 ((cs.drop 2).take (Try.prog.cellsOf 3)) := h
    rw [c3] at h2
    exact h2
  obtain ⟨s, e0, w0⟩ := tr_string Try.underlying9 h0
  obtain ⟨a, e1, w1⟩ := tr_int Try.underlying3 h1
  obtain ⟨d, e2, w2⟩ := tr_int Try.underlying3 h2
  refine ⟨⟨s.data.toList, a, d⟩, ?_, by rw [data_length]; exact w0, wf_i64 w1, wf_i64 w2⟩
  have e : cs = cs.drop 0 := rfl
  rw [e, drop1 e0, drop1 e1, drop1 e2, List.drop_of_length_le (by omega), Leaf.L.cs, str_toList]
set_option maxRecDepth 100000 in
theorem open_ent {v : Value} {d : DataW H} {p : List MemPlace} {r : Reach} {base : Nat} (hv : Value.okWide Try.prog w r base 77 v) (h : DataW.Trod enc Try.prog w 0 spare held 77 v d p) :
    ∃ e : L, v = .agg #[.string (str e.key), .int .i64 e.first, .int .i64 e.len] ∧ e.key.length ≤ maxLen ∧ I64 e.first ∧ I64 e.len := by
  obtain ⟨cs, rfl, ht⟩ := open_struct Try.underlying77 hv h
  obtain ⟨a, rfl, hi⟩ := tr_ent ht
  exact ⟨a, rfl, hi⟩
theorem flatten_ents (xs : List (List Value)) (h : ∀ x ∈ xs, ∃ e : L, x = e.cs ∧ e.key.length ≤ maxLen ∧ I64 e.first ∧ I64 e.len) : ∃ l : List L, xs.flatten = ls l ∧ l.length = xs.length ∧ ∀ e ∈ l, e.key.length ≤ maxLen ∧ I64 e.first ∧ I64 e.len := by
  induction xs with
  | nil => exact ⟨[], rfl, rfl, by simp⟩
  | cons x xs ih =>
    obtain ⟨e, rfl, he⟩ := h x List.mem_cons_self
    obtain ⟨l, h1, h2, h3⟩ := ih (fun y hy => h y (List.mem_cons_of_mem _ hy))
    refine ⟨e :: l, ?_, by simp [h2], fun f hf => ?_⟩
    · rw [List.flatten_cons, h1]; rfl
    · rcases List.mem_cons.1 hf with rfl | hf
      · exact he
      · exact h3 f hf
set_option maxRecDepth 100000 in
theorem open_ents {v : Value} {d : DataW H} {p : List MemPlace} {r : Reach} {base : Nat} (hv : Value.okWide Try.prog w r base 22 v) (h : DataW.Trod enc Try.prog w 0 spare held 22 v d p) :
    ∃ l : List L, Rd w 3 v l.length (ls l) ∧ ∀ e ∈ l, e.key.length ≤ maxLen ∧ I64 e.first ∧ I64 e.len := by
  have hc : Try.prog.cellsOf 77 = 3 := by kernel_rfl
  obtain ⟨xs, hR, hx⟩ := open_slice Try.underlying22 (by rw [hc]; decide) hv h
  rw [hc] at hR
  obtain ⟨l, h1, h2, h3⟩ := flatten_ents xs (fun x hx1 => by obtain ⟨-, fuel, y, h2⟩ := hx x hx1; exact tr_ent ⟨fuel, y, h2⟩)
  rw [h1, ← h2] at hR
  exact ⟨l, hR, h3⟩
end Go.Proofs.Ytcjabfdjngekfaa.Opn
