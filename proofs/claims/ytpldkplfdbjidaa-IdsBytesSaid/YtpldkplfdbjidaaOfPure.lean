/- A set of any ids: plain words. -/
import Derived.Test.YtpldkplfdbjidaaRef03Pure
set_option linter.unusedVariables false
set_option linter.unusedSimpArgs false
namespace Go.Proofs.Ytpldkplfdbjidaa.Ids
open Go.Op (bytesLess)
open Go.Proofs.Ytpldkplfdbjidaa.Leaf (lt_trans lt_irr lt_tri lt_asym)

/-- one behind the other, none ahead of one in front of it -/
abbrev Row (l : List Id) : Prop := l.Pairwise fun a b => lt b a = false
/-- of those that are alike and stand together, the first -/
def ddTo (l : List Id) : Nat → List Id
  | 0 => []
  | j + 1 => if (j == 0 || !(l.getD j [] == l.getD (j - 1) [])) = true then ddTo l j ++ [l.getD j []] else ddTo l j
theorem ddTo_len (l : List Id) : ∀ j, (ddTo l j).length ≤ j
  | 0 => Nat.le_refl _
  | j + 1 => by have := ddTo_len l j; rw [ddTo]; split <;> simp <;> omega
theorem ddTo_keep {l : List Id} {j : Nat} (h : (l.getD (j + 1) [] == l.getD j []) = false) : ddTo l (j + 2) = ddTo l (j + 1) ++ [l.getD (j + 1) []] := by
  rw [ddTo, if_pos]
  simp only [Nat.add_sub_cancel, h]; simp
theorem ddTo_skip {l : List Id} {j : Nat} (h : (l.getD (j + 1) [] == l.getD j []) = true) : ddTo l (j + 2) = ddTo l (j + 1) := by
  rw [ddTo, if_neg]
  simp only [Nat.add_sub_cancel, h]; simp
theorem getD_at {l : List Id} {k : Nat} (hk : k < l.length) : l.getD k [] = l[k] := by rw [List.getD_eq_getElem?_getD, List.getElem?_eq_getElem hk]; rfl
theorem take_at {l : List Id} {k : Nat} (hk : k < l.length) : l.take (k + 1) = l.take k ++ [l.getD k []] := by rw [List.take_succ_eq_append_getElem hk, getD_at hk]
theorem mem_take_at {l : List Id} {i k : Nat} (hi : i < k) (hk : i < l.length) : l.getD i [] ∈ l.take k := by
  rw [getD_at hk, List.mem_take_iff_getElem]; exact ⟨i, by omega, rfl⟩
theorem ddTo_mem {l : List Id} {x : Id} : ∀ j, j ≤ l.length → (x ∈ ddTo l j ↔ x ∈ l.take j)
  | 0, _ => by simp [ddTo]
  | j + 1, h => by
    have ih := @ddTo_mem l x j (by omega)
    rw [take_at (by omega), List.mem_append, List.mem_singleton, ddTo]
    split
    · rw [List.mem_append, List.mem_singleton, ih]
    · rename_i hn
      rw [ih]
      refine ⟨.inl, fun hx => hx.elim id (fun hx => ?_)⟩
      simp only [Bool.or_eq_true, Bool.not_eq_true', not_or, beq_iff_eq, Bool.not_eq_false] at hn
      rw [hx, hn.2]
      exact mem_take_at (by omega) (by omega)
theorem ddTo_w {l : List Id} (h32 : W32 l) {j : Nat} (hj : j ≤ l.length) : W32 (ddTo l j) := fun i hi => h32 i (List.mem_of_mem_take ((ddTo_mem j hj).1 hi))
theorem row_at {l : List Id} (h : Row l) {i j : Nat} (hij : i ≤ j) (hj : j < l.length) : lt (l.getD j []) (l.getD i []) = false := by
  rcases Nat.lt_or_ge i j with h1 | h1
  · rw [Row, List.pairwise_iff_getElem] at h
    rw [getD_at hj, getD_at (by omega : i < l.length)]
    exact h i j (by omega) hj h1
  · obtain rfl : i = j := by omega
    exact lt_irr _
theorem ddTo_sorted {l : List Id} (h : Row l) : ∀ j, j ≤ l.length → Sorted (ddTo l j)
  | 0, _ => List.Pairwise.nil
  | j + 1, hj => by
    have ih := ddTo_sorted h j (by omega)
    rw [ddTo]
    split
    · rename_i hk
      rw [Sorted, List.pairwise_append]
      refine ⟨ih, List.pairwise_singleton _ _, fun a ha b hb => ?_⟩
      rw [List.mem_singleton] at hb
      subst hb
      rw [ddTo_mem j (by omega)] at ha
      obtain ⟨i, hi, rfl⟩ := List.mem_iff_getElem.1 ha
      rw [List.length_take] at hi
      rw [List.getElem_take]
      have e : l[i]'(by omega) = l.getD i [] := (getD_at (by omega)).symm
      rw [e]
      have h1 := row_at h (show i ≤ j by omega) (by omega)
      cases h2 : lt (l.getD i []) (l.getD j []) with
      | true => rfl
      | false =>
        have h3 := lt_tri h2 h1
        have h4 := row_at h (show i ≤ j - 1 by omega) (by omega)
        have h5 := row_at h (show j - 1 ≤ j by omega) (by omega)
        rw [h3] at h4
        have h6 := lt_tri h5 h4
        simp only [Bool.or_eq_true, Bool.not_eq_true', beq_eq_false_iff_ne, beq_iff_eq] at hk
        rcases hk with hk | hk
        · omega
        · exact absurd h6 hk
    · exact ih
theorem rins_mem_iff {x y : Id} {l : List Id} : y ∈ rins x l ↔ y = x ∨ y ∈ l := by
  refine ⟨rins_mem, fun h => ?_⟩
  induction l with
  | nil => rcases h with rfl | h; · simp [rins]
           · cases h
  | cons a l ih =>
    rw [rins]
    split
    · rcases h with h | h
      · exact List.mem_cons_of_mem _ (ih (.inl h))
      · rcases List.mem_cons.1 h with rfl | h
        · exact List.mem_cons_self
        · exact List.mem_cons_of_mem _ (ih (.inr h))
    · rcases h with rfl | h
      · exact List.mem_cons_self
      · exact List.mem_cons_of_mem _ h
theorem rwith_mem {x y : Id} {l : List Id} : y ∈ rwith l x ↔ y = x ∨ y ∈ l := by
  unfold rwith
  split
  · rename_i h; exact ⟨.inr, fun h2 => h2.elim (fun e => e ▸ h) id⟩
  · exact rins_mem_iff
theorem rof_mem_from {y : Id} : ∀ (l acc : List Id), y ∈ l.foldl rwith acc ↔ y ∈ acc ∨ y ∈ l
  | [], acc => by simp
  | x :: l, acc => by rw [List.foldl_cons, rof_mem_from l, rwith_mem, List.mem_cons, or_comm (a := y = x) (b := y ∈ acc), or_assoc]
theorem rof_mem {y : Id} (l : List Id) : y ∈ rof l ↔ y ∈ l := by rw [rof, rof_mem_from]; simp
theorem sorted_one : ∀ {a b : List Id}, Sorted a → Sorted b → (∀ x, x ∈ a ↔ x ∈ b) → a = b
  | [], [], _, _, _ => rfl
  | [], y :: b, _, _, h => by have := (h y).2 List.mem_cons_self; cases this
  | x :: a, [], _, _, h => by have := (h x).1 List.mem_cons_self; cases this
  | x :: a, y :: b, ha, hb, h => by
    obtain ⟨ha1, ha2⟩ := List.pairwise_cons.1 ha
    obtain ⟨hb1, hb2⟩ := List.pairwise_cons.1 hb
    have irr : ∀ z : Id, lt z z = true → False := fun z hz => by rw [show lt z z = false from lt_irr z] at hz; cases hz
    have e : x = y := by
      rcases List.mem_cons.1 ((h x).1 List.mem_cons_self) with e | h1
      · exact e
      · rcases List.mem_cons.1 ((h y).2 List.mem_cons_self) with e | h2
        · exact e.symm
        · exact (irr _ (lt_trans (hb1 x h1) (ha1 y h2))).elim
    subst e
    rw [sorted_one ha2 hb2 (fun z => ⟨fun hz => by
      rcases List.mem_cons.1 ((h z).1 (List.mem_cons_of_mem _ hz)) with e | h1
      · exact (irr x (by have := ha1 z hz; rw [e] at this; exact this)).elim
      · exact h1, fun hz => by
      rcases List.mem_cons.1 ((h z).2 (List.mem_cons_of_mem _ hz)) with e | h1
      · exact (irr x (by have := hb1 z hz; rw [e] at this; exact this)).elim
      · exact h1⟩)]
theorem of_one {l m : List Id} (hm : Row m) (h : ∀ x, x ∈ m ↔ x ∈ l) : ddTo m m.length = rof l :=
  sorted_one (ddTo_sorted hm _ (Nat.le_refl _)) (rof_sorted l) fun x => by
    rw [ddTo_mem _ (Nat.le_refl _), List.take_of_length_le (Nat.le_refl _), h, rof_mem]
/-- none alike to the one ahead of it, so far -/
theorem ddTo_all {l : List Id} : ∀ k, k ≤ l.length → (∀ j, j + 1 < k → (l.getD (j + 1) [] == l.getD j []) = false) → ddTo l k = l.take k
  | 0, _, _ => rfl
  | 1, h, _ => by rw [take_at (by omega)]; simp [ddTo]
  | k + 2, h, hd => by rw [ddTo_keep (hd k (by omega)), ddTo_all (k + 1) (by omega) (fun j hj => hd j (by omega)), ← take_at (by omega)]
end Go.Proofs.Ytpldkplfdbjidaa.Ids
