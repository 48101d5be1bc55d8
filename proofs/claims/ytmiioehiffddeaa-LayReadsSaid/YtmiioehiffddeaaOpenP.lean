/- Opening a slice of structs of two numbers. -/
import Derived.Test.YtmiioehiffddeaaOpen
import Derived.ChangeSame
set_option linter.unusedVariables false
set_option linter.unusedSimpArgs false
namespace Go.Proofs.Ytmiioehiffddeaa.Opn
open Go.RowKit Go.Proofs.Ytmiioehiffddeaa.Wd Go.ChangeShapes Go.WideShapes Go.ChangeAt

variable {H : Type} {enc : TypeId × Value → H} {P : Program} {w : World} {spare : Nat → Bool} {held : Bool}

def pairOf : List Value → Int × Int
  | [.int _ a, .int _ b] => (a, b)
  | _ => (0, 0)
theorem flatten_pairs (f : Int × Int → List Value) (xs : List (List Value)) (h : ∀ x ∈ xs, x = f (pairOf x)) : xs.flatten = (xs.map pairOf).flatMap f := by
  induction xs with
  | nil => rfl
  | cons x xs ih =>
    rw [List.flatten_cons, ih (fun y hy => h y (List.mem_cons_of_mem _ hy)), List.map_cons, List.flatMap_cons]
    conv => lhs; rw [h x List.mem_cons_self]
theorem open_pairs {t e : TypeId} {f0 f1 : Field} {v : Value} {d : DataW H} {p : List MemPlace} {r : Reach} {base : Nat} (ht : P.underlying t = some (.slice e)) (he : P.underlying e = some (.struct #[f0, f1])) (hc : P.cellsOf e = 2)
    (o0 : f0.offset = 0) (o1 : f1.offset = 1) (u0 : P.underlying f0.type = some (.int .i64)) (u1 : P.underlying f1.type = some (.int .i64)) (c0 : P.cellsOf f0.type = 1) (c1 : P.cellsOf f1.type = 1)
    (hv : Value.okWide P w r base t v) (h : DataW.Trod enc P w 0 spare held t v d p) :
    ∃ l : List (Int × Int), Rd w 2 v l.length (l.flatMap fun x => [Value.int .i64 x.1, Value.int .i64 x.2]) ∧ ∀ x ∈ l, (Lit.int .i64 x.1).wf = true ∧ (Lit.int .i64 x.2).wf = true := by
  obtain ⟨xs, hR, hx⟩ := open_slice ht (by omega) hv h
  rw [hc] at hR
  have each : ∀ x ∈ xs, x = [Value.int .i64 (pairOf x).1, Value.int .i64 (pairOf x).2] ∧ (Lit.int .i64 (pairOf x).1).wf = true ∧ (Lit.int .i64 (pairOf x).2).wf = true := by
    intro x h1
    obtain ⟨hl, fuel, y, h2⟩ := hx x h1
    rw [hc] at hl
    obtain ⟨y0, y1, n, _, _, k0, k1⟩ := trod_struct2 he h2
    match x, hl with
    | [a, b], _ =>
      rw [o0, c0] at k0
      rw [o1, c1] at k1
      obtain ⟨m0, e0, _, w0⟩ := DataW.trod_int u0 k0
      obtain ⟨m1, e1, _, w1⟩ := DataW.trod_int u1 k1
      simp at e0 e1
      subst e0 e1
      exact ⟨rfl, w0, w1⟩
  refine ⟨xs.map pairOf, ?_, ?_⟩
  · rw [flatten_pairs (fun x => [Value.int .i64 x.1, Value.int .i64 x.2]) xs (fun x hx => (each x hx).1)] at hR
    simpa using hR
  · intro x hx
    obtain ⟨y, hy, rfl⟩ := List.mem_map.1 hx
    exact (each y hy).2
end Go.Proofs.Ytmiioehiffddeaa.Opn
