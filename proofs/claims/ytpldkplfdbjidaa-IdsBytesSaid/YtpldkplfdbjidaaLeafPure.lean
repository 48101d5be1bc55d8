/- Leaves: plain words. -/
import GoSem.Op.String
set_option linter.unusedVariables false
set_option linter.unusedSimpArgs false
namespace Go.Proofs.Ytpldkplfdbjidaa.Leaf
open Go.Op (bytesLess)

structure L where
  (key : List UInt8) (first len : Int)
def L.zero : L := ⟨[], 0, 0⟩
def L.right (e : L) : Bool := decide (1 ≤ e.key.length) && decide (e.key.length ≤ 40) && decide (0 ≤ e.first) && decide (e.first < 4096) && decide (0 ≤ e.len) && decide (e.len ≤ 8192)
/-- bytes of the first k entries, and of the number of entries -/
def sizeTo (l : List L) : Nat → Nat
  | 0 => 1
  | k + 1 => sizeTo l k + (5 + (l.getD k L.zero).key.length)
def risAt (l : List L) (i : Nat) : Bool := (l.getD i L.zero).right && (i == 0 || bytesLess (l.getD (i - 1) L.zero).key (l.getD i L.zero).key)
def risTo (l : List L) : Nat → Bool
  | 0 => true
  | k + 1 => risTo l k && risAt l k
def rising (l : List L) : Bool := risTo l l.length
def right (l : List L) : Bool := rising l && decide (sizeTo l l.length ≤ 256)
def num2 (x : Int) : List UInt8 := [UInt8.ofNat (x.toNat / 256), UInt8.ofNat (x.toNat % 256)]
def L.ent (e : L) : List UInt8 := UInt8.ofNat e.key.length :: (e.key ++ (num2 e.first ++ num2 e.len))
def put (l : List L) : List UInt8 := UInt8.ofNat l.length :: l.flatMap L.ent
def block (l : List L) : List UInt8 := put l ++ List.replicate (256 - (put l).length) 0

theorem ent_length (e : L) : e.ent.length = 5 + e.key.length := by
  simp [L.ent, num2]; omega
theorem risTo_mono {l : List L} {i k : Nat} (h : risTo l k = true) (hi : i ≤ k) : risTo l i = true := by
  induction k with
  | zero => obtain rfl : i = 0 := by omega
            rfl
  | succ k ih =>
    rcases Nat.lt_or_ge i (k + 1) with h1 | h1
    · simp only [risTo, Bool.and_eq_true] at h; exact ih h.1 (by omega)
    · obtain rfl : i = k + 1 := by omega
      exact h
theorem risTo_at {l : List L} {i k : Nat} (h : risTo l k = true) (hi : i < k) : risAt l i = true := by
  have := risTo_mono h (show i + 1 ≤ k by omega)
  simp only [risTo, Bool.and_eq_true] at this
  exact this.2
theorem risTo_false {l : List L} {k n : Nat} (h : risTo l k = false) (hk : k ≤ n) : risTo l n = false := by
  cases h1 : risTo l n with
  | false => rfl
  | true => rw [risTo_mono h1 hk] at h; cases h
theorem take_succ (l : List L) (k : Nat) (hk : k < l.length) : l.take (k + 1) = l.take k ++ [l.getD k L.zero] := by
  rw [List.take_add_one, List.getD_eq_getElem?_getD, List.getElem?_eq_getElem hk]; rfl
theorem sizeTo_take (l : List L) (k : Nat) (hk : k ≤ l.length) : sizeTo l k = 1 + ((l.take k).flatMap L.ent).length := by
  induction k with
  | zero => rfl
  | succ k ih => rw [take_succ l k hk, sizeTo, ih (by omega), List.flatMap_append, List.length_append]; simp [ent_length]; omega
theorem put_length (l : List L) : (put l).length = sizeTo l l.length := by
  rw [sizeTo_take l _ (Nat.le_refl _), List.take_of_length_le (Nat.le_refl _), put]; simp; omega
theorem block_length (l : List L) (h : right l = true) : (block l).length = 256 := by
  simp only [right, Bool.and_eq_true, decide_eq_true_eq] at h
  have := put_length l
  simp [block]; omega
/-- the order of two texts, looked through from the front -/
theorem less_step {a b : List UInt8} (i : Nat) (ht : a.take i = b.take i) (ha : i < a.length) (hb : i < b.length) (hne : a.getD i 0 ≠ b.getD i 0) : bytesLess a b = decide (a.getD i 0 < b.getD i 0) := by
  induction i generalizing a b with
  | zero =>
    cases a with
    | nil => simp at ha
    | cons x a =>
      cases b with
      | nil => simp at hb
      | cons y b =>
        simp only [List.getD_cons_zero] at hne ⊢
        simp [bytesLess, hne]
  | succ i ih =>
    cases a with
    | nil => simp at ha
    | cons x a =>
      cases b with
      | nil => simp at hb
      | cons y b =>
        simp only [List.take_succ_cons, List.cons.injEq] at ht
        simp only [List.getD_cons_succ] at hne ⊢
        rw [← ih ht.2 (by simpa using ha) (by simpa using hb) hne, ht.1]
        simp [bytesLess]
theorem less_end {a b : List UInt8} (i : Nat) (ht : a.take i = b.take i) (h1 : i ≤ a.length) (h2 : i ≤ b.length) (h : i = a.length ∨ i = b.length) : bytesLess a b = decide (a.length < b.length) := by
  induction i generalizing a b with
  | zero =>
    rcases h with h | h
    · have ha : a = [] := List.length_eq_zero_iff.1 h.symm
      subst ha
      cases b <;> simp [bytesLess]
    · have hb : b = [] := List.length_eq_zero_iff.1 h.symm
      subst hb
      cases a <;> simp [bytesLess]
  | succ i ih =>
    cases a with
    | nil => simp at h1
    | cons x a =>
      cases b with
      | nil => simp at h2
      | cons y b =>
        simp only [List.take_succ_cons, List.cons.injEq] at ht
        have h3 := ih ht.2 (by simpa using h1) (by simpa using h2) (by simpa using h)
        rw [ht.1]
        simp [bytesLess, h3]
end Go.Proofs.Ytpldkplfdbjidaa.Leaf
