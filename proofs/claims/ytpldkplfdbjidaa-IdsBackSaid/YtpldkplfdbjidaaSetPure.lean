/- Sets as rising lists: plain laws. -/
import Derived.Test.YtpldkplfdbjidaaOfPure
set_option linter.unusedVariables false
set_option linter.unusedSimpArgs false
namespace Go.Proofs.Ytpldkplfdbjidaa.Ids
open Go.Op (bytesLess)
open Go.Proofs.Ytpldkplfdbjidaa.Leaf (lt_trans lt_irr lt_tri lt_asym)

/-- of two sets: those of either, of both, of the first alone -/
def sor (s t : List Id) : List Id := rof (s ++ t)
def sand (s t : List Id) : List Id := s.filter fun x => decide (x ∈ t)
def sless (s t : List Id) : List Id := s.filter fun x => !decide (x ∈ t)
theorem sor_sorted (s t : List Id) : Sorted (sor s t) := rof_sorted _
theorem sand_sorted {s : List Id} (h : Sorted s) (t : List Id) : Sorted (sand s t) := List.Pairwise.filter _ h
theorem sless_sorted {s : List Id} (h : Sorted s) (t : List Id) : Sorted (sless s t) := List.Pairwise.filter _ h
theorem sor_mem {s t : List Id} {x : Id} : x ∈ sor s t ↔ x ∈ s ∨ x ∈ t := by rw [sor, rof_mem, List.mem_append]
theorem sand_mem {s t : List Id} {x : Id} : x ∈ sand s t ↔ x ∈ s ∧ x ∈ t := by simp [sand]
theorem sless_mem {s t : List Id} {x : Id} : x ∈ sless s t ↔ x ∈ s ∧ x ∉ t := by simp [sless]
theorem sand_w {s : List Id} (h : W32 s) (t : List Id) : W32 (sand s t) := fun i hi => h i (sand_mem.1 hi).1
theorem sless_w {s : List Id} (h : W32 s) (t : List Id) : W32 (sless s t) := fun i hi => h i (sless_mem.1 hi).1
theorem sor_w {s t : List Id} (hs : W32 s) (ht : W32 t) : W32 (sor s t) := fun i hi => (sor_mem.1 hi).elim (hs i) (ht i)
theorem sand_len (s t : List Id) : (sand s t).length ≤ s.length := List.length_filter_le _ _
theorem sless_len (s t : List Id) : (sless s t).length ≤ s.length := List.length_filter_le _ _
theorem sor_len (s t : List Id) : (sor s t).length ≤ s.length + t.length := by
  have := rof_len (s ++ t) []; simpa [sor, rof] using this
theorem law_1 {s t : List Id} (hs : Sorted s) : sor (sless s t) (sand s t) = s :=
  sorted_one (sor_sorted _ _) hs fun x => by rw [sor_mem, sless_mem, sand_mem]; by_cases h : x ∈ t <;> simp [h]
theorem law_2 {s t : List Id} (hs : Sorted s) (ht : Sorted t) : sless (sor s t) (sor (sless s t) (sless t s)) = sand s t :=
  sorted_one (sless_sorted (sor_sorted _ _) _) (sand_sorted hs _) fun x => by
    rw [sless_mem, sor_mem, sor_mem, sless_mem, sless_mem, sand_mem]
    by_cases h : x ∈ t <;> by_cases h2 : x ∈ s <;> simp [h, h2]
theorem nil_of {l : List Id} (h : ∀ x, x ∉ l) : l = [] := List.eq_nil_iff_forall_not_mem.2 h
theorem law_3 (s t : List Id) : sless s (sor s t) = [] := nil_of fun x => by rw [sless_mem, sor_mem]; rintro ⟨h, h2⟩; exact h2 (.inl h)
theorem law_4 (s t : List Id) : sless (sand s t) t = [] := nil_of fun x => by rw [sless_mem, sand_mem]; rintro ⟨⟨_, h⟩, h2⟩; exact h2 h
theorem law_5 {s t : List Id} (ht : Sorted t) (h : sless s t = []) : sor s t = t :=
  sorted_one (sor_sorted _ _) ht fun x => by
    rw [sor_mem]
    refine ⟨fun hx => hx.elim (fun h1 => ?_) id, .inr⟩
    by_cases h2 : x ∈ t
    · exact h2
    · have : x ∈ sless s t := sless_mem.2 ⟨h1, h2⟩
      rw [h] at this; cases this
/-- what is kept, so far -/
theorem filter_snoc (p : Id → Bool) (l : List Id) (x : Id) : (l ++ [x]).filter p = if p x = true then l.filter p ++ [x] else l.filter p := by
  rw [List.filter_append]; by_cases h : p x <;> simp [h]
end Go.Proofs.Ytpldkplfdbjidaa.Ids
