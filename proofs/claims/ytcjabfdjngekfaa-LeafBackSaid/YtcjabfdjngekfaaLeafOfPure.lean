/- A leaf of a block: plain words. -/
import Derived.Test.YtcjabfdjngekfaaLeafW4
set_option linter.unusedVariables false
set_option linter.unusedSimpArgs false
namespace Go.Proofs.Ytcjabfdjngekfaa.Leaf

def bt (b : List UInt8) (i : Nat) : Nat := (b.getD i 0).toNat
/-- the next entry's room: 5 bytes and its key's -/
def room (b : List UInt8) : Bool := decide (5 ≤ b.length) && decide (5 + bt b 0 ≤ b.length)
def entOf (b : List UInt8) : L := ⟨(b.drop 1).take (bt b 0), ((256 * bt b (bt b 0 + 1) + bt b (bt b 0 + 2) : Nat) : Int), ((256 * bt b (bt b 0 + 3) + bt b (bt b 0 + 4) : Nat) : Int)⟩
/-- what is read after k entries: the entries and the rest; none: there is no room -/
def stp (b : List UInt8) : Nat → Option (List L × List UInt8)
  | 0 => some ([], b)
  | k + 1 => match stp b k with
    | none => none
    | some (l, r) => if room r then some (l ++ [entOf r], r.drop (bt r 0 + 5)) else none
def ofB (b : List UInt8) : Option (List L) :=
  match stp b.tail (bt b 0) with
  | none => none
  | some (l, _) => if okPut l && (block l == b) then some l else none
theorem stp_none {b : List UInt8} {k n : Nat} (h : stp b k = none) (hk : k ≤ n) : stp b n = none := by
  induction n with
  | zero => obtain rfl : k = 0 := by omega
            exact h
  | succ n ih =>
    rcases Nat.lt_or_ge n k with h1 | h1
    · obtain rfl : k = n + 1 := by omega
      exact h
    · rw [stp, ih h1]
theorem stp_succ {b r : List UInt8} {l : List L} {k : Nat} (h : stp b k = some (l, r)) (hr : room r = true) : stp b (k + 1) = some (l ++ [entOf r], r.drop (bt r 0 + 5)) := by
  rw [stp, h]; simp [hr]
theorem stp_stop {b r : List UInt8} {l : List L} {k : Nat} (h : stp b k = some (l, r)) (hr : room r = false) : stp b (k + 1) = none := by
  rw [stp, h]; simp [hr]
theorem bt_lt (b : List UInt8) (i : Nat) : bt b i < 256 := (b.getD i 0).toNat_lt
theorem entOf_key {r : List UInt8} (h : room r = true) : (entOf r).key.length = bt r 0 := by
  simp only [room, Bool.and_eq_true, decide_eq_true_eq] at h
  simp [entOf]; omega
/-- what is read is no more than there was -/
theorem stp_len {b r : List UInt8} {l : List L} {k : Nat} (h : stp b k = some (l, r)) : l.length = k ∧ (l.flatMap L.ent).length + r.length = b.length ∧ r = b.drop (b.length - r.length) := by
  induction k generalizing l r with
  | zero => simp only [stp, Option.some.injEq, Prod.mk.injEq] at h; obtain ⟨rfl, rfl⟩ := h; simp
  | succ k ih =>
    cases h1 : stp b k with
    | none => rw [stp_none h1 (by omega)] at h; cases h
    | some p =>
      obtain ⟨l0, r0⟩ := p
      obtain ⟨i1, i2, i3⟩ := ih h1
      cases hr : room r0 with
      | false => rw [stp_stop h1 hr] at h; cases h
      | true =>
        rw [stp_succ h1 hr] at h
        simp only [Option.some.injEq, Prod.mk.injEq] at h
        obtain ⟨rfl, rfl⟩ := h
        have hk := entOf_key hr
        simp only [room, Bool.and_eq_true, decide_eq_true_eq] at hr
        have e1 : (List.drop (bt r0 0 + 5) r0).length = r0.length - (bt r0 0 + 5) := List.length_drop
        refine ⟨by simp [i1], ?_, ?_⟩
        · have e2 : ([entOf r0].flatMap L.ent).length = 5 + bt r0 0 := by simp [ent_length, hk]
          rw [List.flatMap_append, List.length_append, e1, e2]; omega
        · have h5 : ∀ m, r0.drop m = b.drop (b.length - r0.length + m) := by
            intro m
            conv => lhs; rw [i3]
            rw [List.drop_drop]
          rw [e1, h5]
          congr 1; omega
theorem stp_fit {b r : List UInt8} {l : List L} {k : Nat} (h : stp b k = some (l, r)) : ∀ j, j < l.length → (l.getD j L.zero).key.length ≤ 1000 ∧ (0 ≤ (l.getD j L.zero).first ∧ (l.getD j L.zero).first < 65536) ∧ 0 ≤ (l.getD j L.zero).len ∧ (l.getD j L.zero).len < 65536 := by
  induction k generalizing l r with
  | zero => simp only [stp, Option.some.injEq, Prod.mk.injEq] at h; obtain ⟨rfl, rfl⟩ := h; intro j hj; simp at hj
  | succ k ih =>
    cases h1 : stp b k with
    | none => rw [stp_none h1 (by omega)] at h; cases h
    | some p =>
      obtain ⟨l0, r0⟩ := p
      have i1 := (stp_len h1).1
      cases hr : room r0 with
      | false => rw [stp_stop h1 hr] at h; cases h
      | true =>
        rw [stp_succ h1 hr] at h
        simp only [Option.some.injEq, Prod.mk.injEq] at h
        obtain ⟨rfl, rfl⟩ := h
        intro j hj
        rcases Nat.lt_or_ge j l0.length with h2 | h2
        · have := ih h1 j h2
          rw [List.getD_eq_getElem?_getD] at this ⊢
          rw [List.getElem?_append_left h2]; exact this
        · have e1 : (l0 ++ [entOf r0]).getD j L.zero = entOf r0 := by
            rw [List.length_append] at hj; simp only [List.length_cons, List.length_nil] at hj
            obtain rfl : j = l0.length := by omega
            rw [List.getD_eq_getElem?_getD, List.getElem?_append_right (Nat.le_refl _)]; simp
          rw [e1, entOf_key hr]
          have a0 := bt_lt r0 0
          have a1 := bt_lt r0 (bt r0 0 + 1)
          have a2 := bt_lt r0 (bt r0 0 + 2)
          have a3 := bt_lt r0 (bt r0 0 + 3)
          have a4 := bt_lt r0 (bt r0 0 + 4)
          simp only [entOf]
          omega
end Go.Proofs.Ytcjabfdjngekfaa.Leaf
