/- Leaves that turn: plain words. -/
import Derived.Test.YtpldkplfdbjidaaLeafPure
set_option linter.unusedVariables false
set_option linter.unusedSimpArgs false
namespace Go.Proofs.Ytpldkplfdbjidaa.Leaf
open Go.Op (bytesLess)

theorem less_eq (a b : List UInt8) : bytesLess a b = decide (a < b) := by
  induction a generalizing b with
  | nil => cases b <;> simp [bytesLess]
  | cons x a ih =>
    cases b with
    | nil => simp [bytesLess]
    | cons y b =>
      rw [bytesLess, ih b]
      simp only [List.cons_lt_cons_iff]
      by_cases h1 : x < y <;> by_cases h2 : x = y <;> by_cases h3 : a < b <;> simp [h1, h2, h3]
theorem lt_trans {a b c : List UInt8} (h1 : bytesLess a b = true) (h2 : bytesLess b c = true) : bytesLess a c = true := by
  simp only [less_eq, decide_eq_true_eq] at *
  exact List.lt_trans h1 h2
theorem lt_irr (a : List UInt8) : bytesLess a a = false := by
  rw [less_eq, decide_eq_false_iff_not]; exact List.lt_irrefl a
theorem lt_tri {a b : List UInt8} (h1 : bytesLess a b = false) (h2 : bytesLess b a = false) : a = b := by
  simp only [less_eq, decide_eq_false_iff_not] at *
  exact List.le_antisymm (List.not_lt.1 h2) (List.not_lt.1 h1)
theorem lt_asym {a b : List UInt8} (h1 : bytesLess a b = true) : bytesLess b a = false := by
  cases h : bytesLess b a with
  | false => rfl
  | true => have := lt_trans h1 h; rw [lt_irr] at this; cases this
theorem lt_of_not {a b c : List UInt8} (h1 : bytesLess a b = true) (h2 : bytesLess c b = false) : bytesLess a c = true := by
  cases h : bytesLess a c with
  | true => rfl
  | false =>
    cases h3 : bytesLess c a with
    | true => rw [lt_trans h3 h1] at h2; cases h2
    | false => rw [lt_tri h h3] at h1; rw [h1] at h2; cases h2
/-- the key of the entry at a place -/
def ky (l : List L) (i : Nat) : List UInt8 := (l.getD i L.zero).key
def Up (l : List L) : Prop := ∀ i j, i < j → j < l.length → bytesLess (ky l i) (ky l j) = true
theorem rising_up {l : List L} (h : rising l = true) : Up l := by
  intro i j hij hj
  induction j with
  | zero => omega
  | succ j ih =>
    have h1 := risTo_at (k := l.length) h hj
    simp only [risAt, Bool.and_eq_true, Bool.or_eq_true, beq_iff_eq, Nat.add_sub_cancel] at h1
    have h2 : bytesLess (ky l j) (ky l (j + 1)) = true := by
      rcases h1.2 with h | h
      · omega
      · exact h
    rcases Nat.lt_or_ge i j with h3 | h3
    · exact lt_trans (ih h3 (by omega)) h2
    · obtain rfl : i = j := by omega
      exact h2
/-- a place for a key: what is ahead of it is less, what is from it on is not -/
structure Place (l : List L) (key : List UInt8) (i : Nat) : Prop where
  le : i ≤ l.length
  lo : ∀ j, j < i → bytesLess (ky l j) key = true
  hi : ∀ j, i ≤ j → j < l.length → bytesLess (ky l j) key = false
theorem Place.one {l : List L} {key : List UInt8} {i k : Nat} (h1 : Place l key i) (h2 : Place l key k) : i = k := by
  rcases Nat.lt_trichotomy i k with h | h | h
  · have a := h2.lo i h; have b := h1.hi i (Nat.le_refl _) (by have := h2.le; omega); rw [a] at b; cases b
  · exact h
  · have a := h1.lo k h; have b := h2.hi k (Nat.le_refl _) (by have := h1.le; omega); rw [a] at b; cases b
/-- if one is less, so are those ahead of it -/
theorem Up.down {l : List L} (h : Up l) {key : List UInt8} {i j : Nat} (hij : i ≤ j) (hj : j < l.length) (hl : bytesLess (ky l j) key = true) : bytesLess (ky l i) key = true := by
  rcases Nat.lt_or_ge i j with h1 | h1
  · exact lt_trans (h i j h1 hj) hl
  · obtain rfl : i = j := by omega
    exact hl
theorem Up.upw {l : List L} (h : Up l) {key : List UInt8} {i j : Nat} (hij : i ≤ j) (hj : j < l.length) (hl : bytesLess (ky l i) key = false) : bytesLess (ky l j) key = false := by
  cases h1 : bytesLess (ky l j) key with
  | false => rfl
  | true => rw [h.down hij hj h1] at hl; cases hl
def cnt (l : List L) (key : List UInt8) : Nat → Nat
  | 0 => 0
  | k + 1 => cnt l key k + (if bytesLess (ky l k) key then 1 else 0)
def had (l : List L) (key : List UInt8) : Nat → Bool
  | 0 => false
  | k + 1 => had l key k || ky l k == key
theorem cnt_lo {l : List L} {key : List UInt8} {i : Nat} (h : Place l key i) : ∀ k, k ≤ i → cnt l key k = k := by
  intro k
  induction k with
  | zero => intro _; rfl
  | succ k ih => intro hk; rw [cnt, ih (by omega), h.lo k (by omega)]; rfl
theorem cnt_hi {l : List L} {key : List UInt8} {i : Nat} (h : Place l key i) : ∀ k, i ≤ k → k ≤ l.length → cnt l key k = i := by
  intro k
  induction k with
  | zero => intro h1 h2; obtain rfl : i = 0 := by omega
            rfl
  | succ k ih =>
    intro h1 h2
    rcases Nat.lt_or_ge k i with h3 | h3
    · obtain rfl : i = k + 1 := by omega
      exact cnt_lo h _ (Nat.le_refl _)
    · rw [cnt, ih h3 (by omega), h.hi k h3 (by omega)]; simp
theorem had_iff (l : List L) (key : List UInt8) (n : Nat) : had l key n = true ↔ ∃ j, j < n ∧ ky l j = key := by
  induction n with
  | zero => simp [had]
  | succ n ih =>
    rw [had, Bool.or_eq_true, ih, beq_iff_eq]
    constructor
    · rintro (⟨j, h1, h2⟩ | h)
      · exact ⟨j, by omega, h2⟩
      · exact ⟨n, by omega, h⟩
    · rintro ⟨j, h1, h2⟩
      rcases Nat.lt_or_ge j n with h | h
      · exact .inl ⟨j, h, h2⟩
      · obtain rfl : j = n := by omega
        exact .inr h2
/-- a key that is there is at its place -/
theorem had_place {l : List L} (hu : Up l) {key : List UInt8} {i : Nat} (h : Place l key i) : had l key l.length = (decide (i < l.length) && (ky l i == key)) := by
  cases hh : had l key l.length with
  | true =>
    obtain ⟨j, hj, hk⟩ := (had_iff l key _).1 hh
    have h1 : i ≤ j := by
      rcases Nat.lt_or_ge j i with h2 | h2
      · have := h.lo j h2; rw [hk, lt_irr] at this; cases this
      · exact h2
    have h2 : i = j := by
      rcases Nat.lt_or_ge i j with h3 | h3
      · have a := hu i j h3 hj; rw [hk] at a; rw [h.hi i (Nat.le_refl _) (by omega)] at a; cases a
      · omega
    subst h2
    rw [decide_eq_true hj, hk, beq_self_eq_true]; rfl
  | false =>
    symm
    cases hd : (decide (i < l.length) && (ky l i == key)) with
    | false => rfl
    | true =>
      simp only [Bool.and_eq_true, decide_eq_true_eq, beq_iff_eq] at hd
      rw [(had_iff l key _).2 ⟨i, hd.1, hd.2⟩] at hh; cases hh
def without (l : List L) (key : List UInt8) : List L := l.filter fun e => e.key != key
theorem without_none {l : List L} {key : List UInt8} (h : had l key l.length = false) : without l key = l := by
  rw [without, List.filter_eq_self]
  intro e he
  obtain ⟨j, hj, rfl⟩ := List.mem_iff_getElem.1 he
  rw [bne_iff_ne]
  intro hk
  have : had l key l.length = true := (had_iff l key _).2 ⟨j, hj, by rw [ky, List.getD_eq_getElem?_getD, List.getElem?_eq_getElem hj]; exact hk⟩
  rw [this] at h; cases h
theorem without_some {l : List L} (hu : Up l) {key : List UInt8} {i : Nat} (hi : i < l.length) (hk : ky l i = key) : without l key = l.take i ++ l.drop (i + 1) := by
  have hne : ∀ j, j < l.length → j ≠ i → (ky l j != key) = true := by
    intro j hj hji
    rw [bne_iff_ne]
    intro h
    rcases Nat.lt_or_gt_of_ne hji with h1 | h1
    · have := hu j i h1 hi; rw [h, hk, lt_irr] at this; cases this
    · have := hu i j h1 hj; rw [h, hk, lt_irr] at this; cases this
  have e : l = l.take i ++ (l.getD i L.zero :: l.drop (i + 1)) := by
    rw [List.getD_eq_getElem?_getD, List.getElem?_eq_getElem hi, Option.getD_some, ← List.drop_eq_getElem_cons hi, List.take_append_drop]
  have f1 : (l.take i).filter (fun e => e.key != key) = l.take i := by
    rw [List.filter_eq_self]
    intro e he
    obtain ⟨j, hj, rfl⟩ := List.mem_iff_getElem.1 he
    rw [List.length_take] at hj
    have := hne j (by omega) (by omega)
    rw [ky, List.getD_eq_getElem?_getD, List.getElem?_eq_getElem (by omega : j < l.length)] at this
    rw [List.getElem_take]; exact this
  have f2 : (l.drop (i + 1)).filter (fun e => e.key != key) = l.drop (i + 1) := by
    rw [List.filter_eq_self]
    intro e he
    obtain ⟨j, hj, rfl⟩ := List.mem_iff_getElem.1 he
    rw [List.length_drop] at hj
    have := hne (i + 1 + j) (by omega) (by omega)
    rw [ky, List.getD_eq_getElem?_getD, List.getElem?_eq_getElem (by omega : i + 1 + j < l.length)] at this
    rw [List.getElem_drop]; exact this
  unfold without
  conv => lhs; rw [e]
  rw [List.filter_append, f1, List.filter_cons]
  have hk2 : ((l.getD i L.zero).key != key) = false := by rw [show (l.getD i L.zero).key = key from hk]; simp
  rw [hk2, f2]; rfl
/-- a leaf with an entry: at its place, in place of what has its key -/
def withAt (l : List L) (e : L) (i : Nat) (is : Bool) : List L := l.take i ++ (e :: l.drop (if is then i + 1 else i))
/-- the same by way of what is without the key -/
theorem place_without {l : List L} (hu : Up l) {key : List UInt8} {i : Nat} (h : Place l key i) : Place (without l key) key i ∧ ∀ e : L, (without l key).take i ++ (e :: (without l key).drop i) = withAt l e i (had l key l.length) := by
  cases hh : had l key l.length with
  | false => rw [without_none hh]; exact ⟨h, fun e => rfl⟩
  | true =>
    have hp := had_place hu h
    rw [hh] at hp
    simp only [Eq.comm (a := true), Bool.and_eq_true, decide_eq_true_eq, beq_iff_eq] at hp
    obtain ⟨hi, hk⟩ := hp
    have hw := without_some hu hi hk
    have hl : (l.take i).length = i := by rw [List.length_take]; omega
    have k1 : ∀ j, j < i → ky (without l key) j = ky l j := by
      intro j hj
      rw [ky, ky, hw, List.getD_eq_getElem?_getD, List.getD_eq_getElem?_getD, List.getElem?_append_left (by omega), List.getElem?_take, if_pos hj]
    have k2 : ∀ j, i ≤ j → ky (without l key) j = ky l (j + 1) := by
      intro j hj
      rw [ky, ky, hw, List.getD_eq_getElem?_getD, List.getD_eq_getElem?_getD, List.getElem?_append_right (by omega), List.getElem?_drop, hl]
      congr 2; congr 1; omega
    have hlen : (without l key).length = l.length - 1 := by rw [hw, List.length_append, hl, List.length_drop]; omega
    refine ⟨⟨by omega, fun j hj => by rw [k1 j hj]; exact h.lo j hj, fun j hj hj2 => by rw [k2 j hj]; exact h.hi (j + 1) (by omega) (by omega)⟩, fun e => ?_⟩
    rw [withAt, hw, List.take_left' hl, List.drop_left' hl]; rfl
/-- where a leaf is cut in two -/
structure Cut (l : List L) (h : Nat) : Prop where
  le : h ≤ l.length
  lo : ∀ j, j < h → 2 * (sizeTo l j - 1) < sizeTo l l.length - 1
  hi : h = l.length ∨ ¬ 2 * (sizeTo l h - 1) < sizeTo l l.length - 1
theorem Cut.one {l : List L} {h k : Nat} (h1 : Cut l h) (h2 : Cut l k) : h = k := by
  rcases Nat.lt_trichotomy h k with g | g | g
  · have a := h2.lo h g
    rcases h1.hi with b | b
    · have := h2.le; omega
    · exact absurd a b
  · exact g
  · have a := h1.lo k g
    rcases h2.hi with b | b
    · have := h1.le; omega
    · exact absurd a b
theorem sizeTo_pos (l : List L) (k : Nat) : 1 ≤ sizeTo l k := by
  induction k with
  | zero => exact Nat.le_refl _
  | succ k ih => rw [sizeTo]; omega
theorem sizeTo_of_take (l : List L) (h : Nat) (hh : h ≤ l.length) : ∀ k, k ≤ h → sizeTo (l.take h) k = sizeTo l k := by
  intro k
  induction k with
  | zero => intro _; rfl
  | succ k ih =>
    intro hk
    rw [sizeTo, sizeTo, ih (by omega), List.getD_eq_getElem?_getD, List.getD_eq_getElem?_getD, List.getElem?_take, if_pos (by omega)]
end Go.Proofs.Ytpldkplfdbjidaa.Leaf
