/- slices.Contains, slices.Clone of numbers. -/
import Derived.Test.YtcjabfdjngekfaaShelf
import Derived.Test.YtcjabfdjngekfaaUse
set_option linter.unusedVariables false
set_option linter.unusedSimpArgs false
namespace Go.Proofs.Ytcjabfdjngekfaa.Use
open Go.RowKit Go.Proofs.Ytcjabfdjngekfaa.Wd
theorem contains_any (v : Value) (l : List Int) (x : Int) (w : World) (h : Rd w 1 v l.length (is l)) :
    Calls Try.prog 99 #[v, .int .i64 x] w fun e w' => e = .returned (.bool (l.contains x)) ∧ w' = w := by
  obtain ⟨A, c, rfl, h1, h2, -⟩ := h.slice_
  unfold maxLen at h2
  rcases Nat.eq_zero_or_pos l.length with h0 | h0
  · obtain rfl : l = [] := List.eq_nil_of_length_eq_zero h0
    exact Try.slices_Contains_int_empty A c x w
  · obtain ⟨b, off, rfl, hc⟩ := ints_at h rfl h0
    have := Try.slices_Contains_int b off l.length c l x w (Nat.le_refl _) (by omega) hc
    rw [List.take_of_length_le (Nat.le_refl _)] at this
    exact this
theorem clone_any (v : Value) (l : List Int) (w : World) (h : Rd w 1 v l.length (is l)) (hl : l.length * 8 ≤ 140737488355328) :
    Calls Try.prog 111 #[v] w fun e w' => ∃ v', e = .returned v' ∧ w'.ownsRow w.heap.size 3 1 v' l.length (is l) ∧ Below w.heap.size w w' := by
  obtain ⟨A, c, rfl, h1, h2, -⟩ := h.slice_
  rcases Nat.eq_zero_or_pos l.length with h0 | h0
  · obtain rfl : l = [] := List.eq_nil_of_length_eq_zero h0
    cases A with
    | none => exact (Try.slices_Clone_int_nil 0 c w).mono fun e w' ⟨h1, h2⟩ => ⟨_, h1, by rw [h2]; exact own_nil _ _ _ _, by rw [h2]; exact Below.refl _ _⟩
    | some a => exact (Try.slices_Clone_int_zero a c w).mono fun e w' ⟨v', h1, h2, _, h3⟩ => ⟨v', h1, h2, h3⟩
  · obtain ⟨b, off, rfl, hc⟩ := ints_at h rfl h0
    refine (Try.slices_Clone_int b off l.length c l w (Nat.le_refl _) hl hc).mono fun e w' ⟨v', h1, h2, _, h3⟩ => ⟨v', h1, ?_, h3⟩
    rw [List.take_of_length_le (Nat.le_refl _)] at h2
    exact h2
end Go.Proofs.Ytcjabfdjngekfaa.Use
