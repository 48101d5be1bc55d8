/- The reference of ids: plain words. -/
import Derived.Test.YtpldkplfdbjidaaIdsPure
set_option linter.unusedVariables false
set_option linter.unusedSimpArgs false
namespace Go.Proofs.Ytpldkplfdbjidaa.Ids
open Go.Op (bytesLess)
open Go.Proofs.Ytpldkplfdbjidaa.Leaf (lt_trans lt_irr lt_tri lt_asym)

abbrev Sorted (l : List Id) : Prop := l.Pairwise fun a b => lt a b = true
theorem up_step {l : List Id} {k : Nat} (h : upTo l k = true) : ∀ j, j < k → 0 < j → lt (l.getD (j - 1) []) (l.getD j []) = true := by
  intro j hj h0
  have h1 := upTo_mono h (show j + 1 ≤ k by omega)
  simp only [upTo, Bool.and_eq_true, Bool.or_eq_true] at h1
  rcases h1.2 with h2 | h2
  · simp at h2; omega
  · exact h2
theorem up_lt {l : List Id} (h : up l = true) : ∀ d i, i + d + 1 < l.length → lt (l.getD i []) (l.getD (i + d + 1) []) = true
  | 0, i, hi => by have := up_step h (i + 1) hi (by omega); simpa using this
  | d + 1, i, hi => lt_trans (up_lt h d i (by omega)) (by have := up_step h (i + (d + 1) + 1) hi (by omega); simpa [Nat.add_assoc] using this)
theorem up_sorted {l : List Id} (h : up l = true) : Sorted l := by
  rw [Sorted, List.pairwise_iff_getElem]
  intro i j hi hj hij
  have := up_lt h (j - i - 1) i (by omega)
  rw [show i + (j - i - 1) + 1 = j by omega, List.getD_eq_getElem?_getD, List.getD_eq_getElem?_getD, List.getElem?_eq_getElem hi, List.getElem?_eq_getElem hj] at this
  exact this
theorem sorted_upTo {l : List Id} (h : Sorted l) : ∀ k, k ≤ l.length → upTo l k = true
  | 0, _ => rfl
  | k + 1, hk => by
    rw [upTo, sorted_upTo h k (by omega), Bool.true_and]
    by_cases h0 : k = 0
    · subst h0; rfl
    · rw [Sorted, List.pairwise_iff_getElem] at h
      have := h (k - 1) k (by omega) (by omega) (by omega)
      rw [List.getD_eq_getElem?_getD, List.getD_eq_getElem?_getD, List.getElem?_eq_getElem (show k - 1 < l.length by omega), List.getElem?_eq_getElem (show k < l.length by omega)]
      simp only [Option.getD_some, this, Bool.or_true]
theorem up_iff (l : List Id) : up l = true ↔ Sorted l := ⟨up_sorted, fun h => sorted_upTo h _ (Nat.le_refl _)⟩
/-- an id put to its place -/
def rins (x : Id) : List Id → List Id
  | [] => [x]
  | a :: l => if lt a x then a :: rins x l else x :: a :: l
def rwith (l : List Id) (x : Id) : List Id := if x ∈ l then l else rins x l
def rof (l : List Id) : List Id := l.foldl rwith []
theorem rins_mem {x y : Id} {l : List Id} (h : y ∈ rins x l) : y = x ∨ y ∈ l := by
  induction l with
  | nil => simp [rins] at h; exact .inl h
  | cons a l ih =>
    rw [rins] at h
    split at h
    · rcases List.mem_cons.1 h with rfl | h
      · exact .inr List.mem_cons_self
      · rcases ih h with h | h
        · exact .inl h
        · exact .inr (List.mem_cons_of_mem _ h)
    · rcases List.mem_cons.1 h with rfl | h
      · exact .inl rfl
      · exact .inr h
theorem rins_sorted {x : Id} {l : List Id} (h : Sorted l) (hx : x ∉ l) : Sorted (rins x l) := by
  induction l with
  | nil => simp [rins, Sorted]
  | cons a l ih =>
    rw [rins]
    obtain ⟨h1, h2⟩ := List.pairwise_cons.1 h
    split
    · rename_i ha
      refine List.pairwise_cons.2 ⟨fun y hy => ?_, ih h2 (fun hm => hx (List.mem_cons_of_mem _ hm))⟩
      rcases rins_mem hy with rfl | hy
      · exact ha
      · exact h1 y hy
    · rename_i ha
      have hxa : lt x a = true := by
        cases hc : lt x a with
        | true => rfl
        | false => exact absurd (lt_tri hc (by simpa using ha)) (fun e => hx (by rw [e]; exact List.mem_cons_self))
      refine List.pairwise_cons.2 ⟨fun y hy => ?_, h⟩
      rcases List.mem_cons.1 hy with rfl | hy
      · exact hxa
      · exact lt_trans hxa (h1 y hy)
theorem rwith_sorted {x : Id} {l : List Id} (h : Sorted l) : Sorted (rwith l x) := by
  unfold rwith
  split
  · exact h
  · rename_i hx; exact rins_sorted h hx
theorem rof_sorted_from : ∀ (l acc : List Id), Sorted acc → Sorted (l.foldl rwith acc)
  | [], acc, h => h
  | x :: l, acc, h => rof_sorted_from l _ (rwith_sorted h)
theorem rof_sorted (l : List Id) : Sorted (rof l) := rof_sorted_from l [] List.Pairwise.nil
theorem rins_end {x : Id} {l : List Id} (h : ∀ a ∈ l, lt a x = true) : rins x l = l ++ [x] := by
  induction l with
  | nil => rfl
  | cons a l ih =>
    rw [rins, if_pos (h a List.mem_cons_self), ih (fun b hb => h b (List.mem_cons_of_mem _ hb))]; rfl
theorem rof_id_from : ∀ (l acc : List Id), Sorted (acc ++ l) → l.foldl rwith acc = acc ++ l
  | [], acc, _ => by simp
  | x :: l, acc, h => by
    have h1 := (List.pairwise_append.1 h).2.2
    have hall : ∀ a ∈ acc, lt a x = true := fun a ha => h1 a ha x List.mem_cons_self
    have hx : x ∉ acc := fun hm => absurd (hall x hm) (by rw [show lt x x = false from lt_irr x]; decide)
    rw [List.foldl_cons, rwith, if_neg hx, rins_end hall, rof_id_from l (acc ++ [x]) (by simpa using h)]
    simp
theorem rof_id {l : List Id} (h : Sorted l) : rof l = l := by have := rof_id_from l [] (by simpa using h); simpa [rof] using this
theorem same_rof (l : List Id) : (l == rof l) = up l := by
  cases h : up l with
  | true => rw [rof_id ((up_iff l).1 h)]; simp
  | false =>
    rw [beq_eq_false_iff_ne]
    intro e
    have := (up_iff l).2 (by rw [e]; exact rof_sorted l)
    rw [h] at this; cases this
theorem rins_w {x : Id} {l : List Id} (hx : x.length = 32) (h : W32 l) : W32 (rins x l) := fun i hi => by
  rcases rins_mem hi with rfl | hi
  · exact hx
  · exact h i hi
theorem rins_len (x : Id) (l : List Id) : (rins x l).length = l.length + 1 := by
  induction l with
  | nil => rfl
  | cons a l ih => rw [rins]; split <;> simp [ih]
theorem rwith_w {x : Id} {l : List Id} (hx : x.length = 32) (h : W32 l) : W32 (rwith l x) := by
  unfold rwith; split
  · exact h
  · exact rins_w hx h
theorem rwith_len (x : Id) (l : List Id) : (rwith l x).length ≤ l.length + 1 := by
  unfold rwith; split
  · omega
  · rw [rins_len]; exact Nat.le_refl _
/-- where an id is put -/
theorem rins_at {x : Id} {l : List Id} {k : Nat} (hk : k ≤ l.length) (h1 : ∀ j, j < k → lt (l.getD j []) x = true) (h2 : k = l.length ∨ lt (l.getD k []) x = false) : rins x l = l.take k ++ (x :: l.drop k) := by
  induction l generalizing k with
  | nil => simp [rins]
  | cons a l ih =>
    cases k with
    | zero =>
      rcases h2 with h2 | h2
      · simp at h2
      · rw [rins, if_neg (by simpa using h2)]; simp
    | succ k =>
      have h0 := h1 0 (by omega)
      rw [rins, if_pos (by simpa using h0), ih (by simpa using hk) (fun j hj => by have := h1 (j + 1) (by omega); simpa using this) (by rcases h2 with h2 | h2; exact .inl (by simpa using h2); exact .inr (by simpa using h2))]
      simp
theorem rof_take (l : List Id) (k : Nat) (hk : k < l.length) : rof (l.take (k + 1)) = rwith (rof (l.take k)) (l.getD k []) := by
  rw [rof, rof, List.take_succ_eq_append_getElem hk, List.foldl_append, List.getD_eq_getElem?_getD, List.getElem?_eq_getElem hk]; rfl
theorem rof_len : ∀ (l acc : List Id), (l.foldl rwith acc).length ≤ acc.length + l.length
  | [], acc => by simp
  | x :: l, acc => by have h1 := rof_len l (rwith acc x); have h2 := rwith_len x acc; rw [List.foldl_cons, List.length_cons]; omega
theorem rof_w : ∀ (l acc : List Id), W32 acc → W32 l → W32 (l.foldl rwith acc)
  | [], acc, h, _ => h
  | x :: l, acc, h, hl => rof_w l _ (rwith_w (hl x List.mem_cons_self) h) (fun i hi => hl i (List.mem_cons_of_mem _ hi))
/-- the first byte that differs tells which is ahead -/
theorem lt_at {a b : Id} (k : Nat) (ha : k < a.length) (hb : k < b.length) (he : a.take k = b.take k) (hne : a[k] ≠ b[k]) : lt a b = decide (a[k] < b[k]) := by
  induction k generalizing a b with
  | zero =>
    cases a with
    | nil => simp at ha
    | cons x a => cases b with
      | nil => simp at hb
      | cons y b =>
        simp only [List.getElem_cons_zero] at hne ⊢
        show bytesLess (x :: a) (y :: b) = _
        rw [bytesLess]
        by_cases h1 : x < y
        · simp [h1]
        · have h3 : y < x := by
            rcases Nat.lt_trichotomy x.toNat y.toNat with h | h | h
            · exact absurd (UInt8.lt_iff_toNat_lt.2 h) h1
            · exact absurd (UInt8.toNat_inj.1 h) hne
            · exact UInt8.lt_iff_toNat_lt.2 h
          simp [h1, h3, hne]
  | succ k ih =>
    cases a with
    | nil => simp at ha
    | cons x a => cases b with
      | nil => simp at hb
      | cons y b =>
        simp only [List.take_succ_cons, List.cons.injEq] at he
        obtain ⟨rfl, he⟩ := he
        simp only [List.getElem_cons_succ] at hne ⊢
        have := ih (a := a) (b := b) (by simpa using ha) (by simpa using hb) he hne
        rw [← this]
        show bytesLess (x :: a) (x :: b) = bytesLess a b
        rw [bytesLess]
        simp
end Go.Proofs.Ytpldkplfdbjidaa.Ids
