/- The reader of layer 1 as plain functions on lists, no program in sight. -/
import Derived.Test.YtpldkplfdbjidaaLayPure
set_option linter.unusedVariables false
set_option linter.unusedSimpArgs false
namespace Go.Proofs.Ytpldkplfdbjidaa.Lay
open Go.Proofs.Ytpldkplfdbjidaa.Wd

/-- what is left, and the first error -/
structure Rdr where
  b : List UInt8
  bad : Nat
def ofBe (l : List UInt8) : Nat := l.foldl (fun v c => v * 256 + c.toNat) 0
def Rdr.stop (r : Rdr) (e : Nat) : Rdr := ⟨[], if r.bad = 0 then e else r.bad⟩
def Rdr.number (r : Rdr) : Nat × Rdr :=
  if r.bad = 0 then
    match r.b with
    | [] => (0, r.stop 10)
    | c :: l =>
      if 8 < c.toNat then (0, r.stop 11)
      else if l.length < c.toNat then (0, r.stop 10)
      else if 0 < c.toNat ∧ l.head? = some 0 then (0, r.stop 11)
      else (ofBe (l.take c.toNat), ⟨l.drop c.toNat, 0⟩)
  else (0, r)
def Rdr.small (r : Rdr) (most : Int) : Nat × Rdr :=
  if r.number.2.bad = 0 ∧ (most < 0 ∨ most < r.number.1) then (0, r.number.2.stop 3) else r.number
def Rdr.raw (r : Rdr) (many : Int) : List UInt8 × Rdr :=
  if r.bad = 0 then
    if many < 0 then ([], r.stop 2)
    else if (r.b.length : Int) < many then ([], r.stop 10)
    else (r.b.take many.toNat, ⟨r.b.drop many.toNat, 0⟩)
  else ([], r)
def Rdr.text (r : Rdr) (most : Int) : List UInt8 × Rdr := (r.small most).2.raw (r.small most).1
def Rdr.fin (r : Rdr) : Nat := if r.bad = 0 ∧ r.b ≠ [] then 11 else r.bad

theorem ofBe_snoc (l : List UInt8) (c : UInt8) : ofBe (l ++ [c]) = ofBe l * 256 + c.toNat := by simp [ofBe]
theorem ofBe_lt_from (l : List UInt8) (v : Nat) : l.foldl (fun v c => v * 256 + c.toNat) v < (v + 1) * 256 ^ l.length := by
  induction l generalizing v with
  | nil => simp
  | cons c l ih =>
    rw [List.foldl_cons, List.length_cons, Nat.pow_succ]
    have h1 := ih (v * 256 + c.toNat)
    have h2 := c.toNat_lt
    have h3 : (v * 256 + c.toNat + 1) * 256 ^ l.length ≤ (v + 1) * 256 * 256 ^ l.length := Nat.mul_le_mul_right _ (by omega)
    rw [Nat.mul_comm (256 ^ l.length) 256, ← Nat.mul_assoc]
    omega
theorem ofBe_lt (l : List UInt8) : ofBe l < 256 ^ l.length := by
  have := ofBe_lt_from l 0
  simpa [ofBe] using this
theorem ofBe_lt8 (l : List UInt8) (h : l.length ≤ 8) : ofBe l < 18446744073709551616 := by
  have h1 := ofBe_lt l
  have h2 : 256 ^ l.length ≤ 256 ^ 8 := Nat.pow_le_pow_right (by omega) h
  have h3 : 256 ^ 8 = 18446744073709551616 := by decide
  omega
theorem ofBe_step2 (m : List UInt8) (k : Nat) (hk : k < m.length) (h8 : k < 8) : ofBe (m.take k) * 256 + m[k].toNat = ofBe (m.take (k + 1)) := by
  rw [List.take_succ_eq_append_getElem hk, ofBe_snoc]
theorem ofBe_lt8' (m : List UInt8) (k : Nat) (h8 : k < 8) : ofBe (m.take k) < 72057594037927936 := by
  have h1 := ofBe_lt (m.take k)
  have h2 : 256 ^ (m.take k).length ≤ 256 ^ 7 := Nat.pow_le_pow_right (by omega) (by rw [List.length_take]; omega)
  have h3 : 256 ^ 7 = 72057594037927936 := by decide
  omega
theorem Rdr.number_lt (r : Rdr) : r.number.1 < 18446744073709551616 := by
  unfold Rdr.number
  split
  · split
    · simp
    · split
      · simp
      · split
        · simp
        · split
          · simp
          · exact ofBe_lt8 _ (by rw [List.length_take]; omega)
  · simp
theorem Rdr.number_bad (r : Rdr) (h : r.number.2.bad ≠ 0) : r.number.1 = 0 := by
  unfold Rdr.number at h ⊢
  split
  · rename_i h0
    rw [if_pos h0] at h
    split
    · rfl
    · rename_i c l e
      rw [e] at h
      simp only at h
      split
      · rfl
      · split
        · rfl
        · split
          · rfl
          · rename_i h1 h2 h3
            rw [if_neg h1, if_neg h2, if_neg h3] at h
            exact absurd rfl h
  · rfl
theorem Rdr.small_le (r : Rdr) (most : Int) (h : most < 9223372036854775808) : (r.small most).1 < 9223372036854775808 := by
  unfold Rdr.small
  split
  · simp
  · rename_i h1
    by_cases h2 : r.number.2.bad = 0
    · have : ¬ (most < 0 ∨ most < r.number.1) := fun h3 => h1 ⟨h2, h3⟩
      omega
    · rw [r.number_bad h2]; omega
end Go.Proofs.Ytpldkplfdbjidaa.Lay
