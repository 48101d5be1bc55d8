/- Ids: plain words. -/
import Derived.Test.YtpldkplfdbjidaaTurnPure
import Derived.Test.YtpldkplfdbjidaaLayCanon
import Derived.Lib.Bytealg
set_option linter.unusedVariables false
set_option linter.unusedSimpArgs false
namespace Go.Proofs.Ytpldkplfdbjidaa.Ids
open Go.Op (bytesLess)
open Go.Proofs.Ytpldkplfdbjidaa.Lay

abbrev Id := List UInt8
abbrev lt (a b : Id) : Bool := bytesLess a b
theorem cmp_lt (a b : List UInt8) : decide (Lib.compareBytes a b < 0) = bytesLess a b := by
  induction a generalizing b with
  | nil => cases b <;> simp [Lib.compareBytes, bytesLess]
  | cons x a ih =>
    cases b with
    | nil => simp [Lib.compareBytes, bytesLess]
    | cons y b =>
      rw [Lib.compareBytes, bytesLess, ← ih b]
      by_cases h1 : x < y
      · simp [h1]
      · by_cases h2 : y < x
        · have h3 : ¬ x = y := by rintro rfl; exact h1 h2
          simp [h1, h2, h3]
        · have h3 : x = y := UInt8.le_antisymm (UInt8.not_lt.1 h2) (UInt8.not_lt.1 h1)
          subst h3
          simp [h1]
/-- all are sums -/
def W32 (l : List Id) : Prop := ∀ i ∈ l, i.length = 32
theorem W32.nil : W32 [] := by intro i hi; cases hi
theorem W32.app {l m : List Id} (h : W32 l) (k : W32 m) : W32 (l ++ m) := fun i hi => (List.mem_append.1 hi).elim (h i) (k i)
theorem W32.one {i : Id} (h : i.length = 32) : W32 [i] := by intro j hj; simp at hj; subst hj; exact h
theorem W32.flat {l : List Id} (h : W32 l) : l.flatten.length = l.length * 32 := by
  induction l with
  | nil => rfl
  | cons i l ih => rw [List.flatten_cons, List.length_append, h i List.mem_cons_self, ih (fun j hj => h j (List.mem_cons_of_mem _ hj)), List.length_cons]; omega
theorem W32.get {l : List Id} (h : W32 l) (k : Nat) (hk : k < l.length) : (l.getD k []).length = 32 := by
  rw [List.getD_eq_getElem?_getD, List.getElem?_eq_getElem hk]; exact h _ (List.getElem_mem hk)
/-- rising, each once, looked through from the front -/
def upTo (l : List Id) : Nat → Bool
  | 0 => true
  | k + 1 => upTo l k && (k == 0 || lt (l.getD (k - 1) []) (l.getD k []))
def up (l : List Id) : Bool := upTo l l.length
theorem upTo_mono {l : List Id} {i k : Nat} (h : upTo l k = true) (hi : i ≤ k) : upTo l i = true := by
  induction k with
  | zero => obtain rfl : i = 0 := by omega
            rfl
  | succ k ih =>
    rcases Nat.lt_or_ge i (k + 1) with h1 | h1
    · simp only [upTo, Bool.and_eq_true] at h; exact ih h.1 (by omega)
    · obtain rfl : i = k + 1 := by omega
      exact h
theorem upTo_false {l : List Id} {k n : Nat} (h : upTo l k = false) (hk : k ≤ n) : upTo l n = false := by
  cases h1 : upTo l n with
  | false => rfl
  | true => rw [upTo_mono h1 hk] at h; cases h
/-- a set's bytes -/
def put (l : List Id) : List UInt8 := putN l.length ++ l.flatten
/-- 32 bytes out of what was read -/
def pad (s : List UInt8) : Id := s ++ List.replicate (32 - s.length) 0
/-- as many ids as are there -/
def rl : Nat → Rdr → List Id → Rdr × List Id
  | 0, r, out => (r, out)
  | n + 1, r, out => if r.bad = 0 then rl n (r.raw 32).2 (out ++ [pad (r.raw 32).1]) else (r, out)
def read (b : List UInt8) (most : Int) : List Id × Nat :=
  let s := (⟨b, 0⟩ : Rdr).small most
  let t := rl s.1 s.2 []
  if t.1.bad ≠ 0 then ([], t.1.bad) else if t.1.fin ≠ 0 ∨ up t.2 = false then ([], 11) else (t.2, 0)
theorem raw_len (r : Rdr) (m : Nat) : (r.raw m).1.length = m ∧ (r.raw m).2.b.length + m = r.b.length ∧ (r.raw m).2.bad = 0 ∧ r.bad = 0 ∨ (r.raw m).1 = [] ∧ (r.raw m).2.bad ≠ 0 := by
  unfold Rdr.raw
  by_cases h : r.bad = 0
  · rw [if_pos h, if_neg (by omega)]
    by_cases h2 : (r.b.length : Int) < m
    · rw [if_pos h2]; right; simp [Rdr.stop, h]
    · rw [if_neg h2]; left
      simp only [Int.toNat_natCast, List.length_take, List.length_drop]
      exact ⟨by omega, by omega, trivial, h⟩
  · rw [if_neg h]; exact .inr ⟨rfl, h⟩
theorem pad_len (s : List UInt8) (h : s.length ≤ 32) : (pad s).length = 32 := by simp [pad]; omega
theorem pad_raw (r : Rdr) : (pad (r.raw 32).1).length = 32 := by
  rcases raw_len r 32 with ⟨h, -⟩ | ⟨h, -⟩
  · exact pad_len _ (by rw [show ((32 : Nat) : Int) = 32 from rfl] at h; omega)
  · rw [show ((32 : Nat) : Int) = 32 from rfl] at h; rw [h]; rfl
end Go.Proofs.Ytpldkplfdbjidaa.Ids
