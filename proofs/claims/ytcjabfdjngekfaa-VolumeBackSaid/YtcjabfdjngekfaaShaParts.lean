/- ShaParts' walk. -/
import Derived.Test.YtcjabfdjngekfaaShaNobody
set_option linter.unusedVariables false
set_option linter.unusedSimpArgs false
namespace Go.Proofs.Ytcjabfdjngekfaa.Sha
open Go.RowKit Go.Proofs.Ytcjabfdjngekfaa.Wd

theorem Rd.take {w : World} {sz n c : Nat} {A : Option Addr} {xs : List Value} (h : Rd w sz (.slice A n c) n xs) (m : Nat) (hm : m ≤ n) : Rd w sz (.slice A m c) m (xs.take (m * sz)) := by
  obtain ⟨hl, A', c', hA, h1, h2, h3⟩ := h
  injection hA with hA1 _ hA3
  subst hA1 hA3
  have hms : m * sz ≤ n * sz := Nat.mul_le_mul_right _ hm
  refine ⟨by rw [List.length_take, hl]; omega, _, _, rfl, by omega, h2, fun h0 => ?_⟩
  obtain ⟨b, off, rfl, hc⟩ := h3 (by omega)
  exact ⟨b, off, rfl, fun i hi => by rw [hc i (by omega), List.getElem?_take, if_pos hi]⟩
theorem own_grown {w w1 : World} {base size n : Nat} {e : TypeId} {v : Value} {xs : List Value} {row : Option Nat} (h : w.ownsRow base e size v n xs) (hg : w.grownBy w1 row) (hne : ∀ k, row = some k → v.ownBlock ≠ some k) : w1.ownsRow base e size v n xs := by
  refine ⟨h.1, h.2.elim .inl ?_⟩
  rintro ⟨g, cap, cur, rfl, h1, h2, h3⟩
  exact .inr ⟨g, cap, cur, rfl, h1, blk_grown h2 hg (fun e => hne g e.symm rfl), h3⟩
theorem own_below {w w1 : World} {base size n : Nat} {e : TypeId} {v : Value} {xs : List Value} (h : w.ownsRow base e size v n xs) (hb : Below w.heap.size w w1) : w1.ownsRow base e size v n xs :=
  own_grown h (grown_below hb none) (by simp)
theorem own_alloc {w : World} {base size n : Nat} {e : TypeId} {v : Value} {xs : List Value} (h : w.ownsRow base e size v n xs) (o : Obj) : (w.alloc o).ownsRow base e size v n xs :=
  own_below h ((Below.refl _ _).alloc (Nat.le_refl _) o)
def pre (l : List (Value × List UInt8)) : List UInt8 := l.flatMap fun r => r.2.take 200
theorem pre_succ (l : List (Value × List UInt8)) (k : Nat) (h : k < l.length) : pre (l.take (k + 1)) = pre (l.take k) ++ l[k].2.take 200 := by
  unfold pre
  rw [List.take_succ_eq_append_getElem h, List.flatMap_append]
  simp
theorem pre_le (l : List (Value × List UInt8)) (k : Nat) : (pre (l.take k)).length ≤ 200 * k := by
  induction k with
  | zero => simp [pre]
  | succ k ih =>
    by_cases h : k < l.length
    · rw [pre_succ l k h, List.length_append, List.length_take]; omega
    · rw [List.take_of_length_le (by omega)]; rw [List.take_of_length_le (by omega)] at ih; omega
end Go.Proofs.Ytcjabfdjngekfaa.Sha
