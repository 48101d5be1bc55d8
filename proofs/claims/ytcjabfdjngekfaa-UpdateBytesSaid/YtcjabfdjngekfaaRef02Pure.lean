/- The constants by definition: plain. -/
import Derived.Test.YtcjabfdjngekfaaShaPure
set_option linter.unusedVariables false
set_option linter.unusedSimpArgs false
namespace Go.Proofs.Ytcjabfdjngekfaa.Sha
open Go.Proofs.Ytcjabfdjngekfaa.Wd

def M64 : Nat := 18446744073709551616
def hi64 (x y : Nat) : Nat := x * y / 18446744073709551616
def lo64 (x y : Nat) : Nat := x * y % 18446744073709551616
def top3 (x : Nat) : Nat := (hi64 (lo64 x x) x + lo64 (hi64 x x) x) % 18446744073709551616
def belowN (x p k : Nat) : Bool :=
  if k = 2 then decide (hi64 x x < p) || (hi64 x x == p && lo64 x x == 0)
  else decide (top3 x < p * 4294967296) || (top3 x == p * 4294967296 && lo64 (lo64 x x) x == 0)
/-- the bits 36, 35, .. : j of them asked -/
def rootK (p k : Nat) : Nat → Nat
  | 0 => 0
  | j + 1 => if belowN (rootK p k j + 2 ^ (36 - j)) p k then rootK p k j + 2 ^ (36 - j) else rootK p k j
theorem rootK_le (p k j : Nat) (h : j ≤ 37) : rootK p k j + 2 ^ (37 - j) ≤ 2 ^ 37 := by
  induction j with
  | zero => simp [rootK]
  | succ j ih =>
    have := ih (by omega)
    have e : 2 ^ (37 - j) = 2 ^ (36 - j) + 2 ^ (36 - j) := by rw [show 37 - j = (36 - j) + 1 by omega, Nat.pow_succ]; omega
    rw [show 37 - (j + 1) = 36 - j by omega]
    have hp : 0 < 2 ^ (36 - j) := Nat.two_pow_pos _
    obtain ⟨c, hc⟩ : ∃ c, c = 2 ^ (36 - j) := ⟨_, rfl⟩
    unfold rootK
    rw [← hc] at e hp ⊢
    split <;> omega
def rootW (p k : Nat) : UInt32 := UInt32.ofNat (rootK p k 37 % 4294967296)
/-- no number below d, from 2 on, goes into p -/
def inn (p d : Nat) : Bool := (List.range d).all fun e => decide (e < 2) || p % e != 0
def isPr (p : Nat) : Bool := (List.range 32).all fun e => decide (e < 2) || p % e != 0 || decide (p < e * e)
theorem inn_succ (p d : Nat) (h : 2 ≤ d) : inn p (d + 1) = (inn p d && p % d != 0) := by
  unfold inn
  rw [List.range_succ, List.all_append]
  simp [show ¬ d < 2 by omega]
theorem inn_all (p d : Nat) (hp : p < 1000) (hd : 2 ≤ d) (h : p < d * d) (hb : ∀ e, e < d → 2 ≤ e → e * e ≤ p) : inn p d = isPr p := by
  rw [Bool.eq_iff_iff]
  unfold inn isPr
  simp only [List.all_eq_true, List.mem_range, Bool.or_eq_true, decide_eq_true_eq, bne_iff_ne]
  constructor
  · intro h1 e he
    by_cases h2 : e < d
    · exact .inl (h1 e h2)
    · exact .inr (Nat.lt_of_lt_of_le h (Nat.mul_le_mul (by omega) (by omega)))
  · intro h1 e he
    by_cases h3 : e < 2
    · exact .inl h3
    · have h4 := hb e he (by omega)
      have h5 : e < 32 := by
        apply Nat.lt_of_not_le
        intro h6
        have := Nat.mul_le_mul h6 h6
        omega
      rcases h1 e h5 with h7 | h7
      · exact h7
      · omega
def primesTo (p : Nat) : List Nat := (List.range p).filter fun e => decide (2 ≤ e) && isPr e
theorem primesTo_succ (p : Nat) (h : 2 ≤ p) : primesTo (p + 1) = if isPr p then primesTo p ++ [p] else primesTo p := by
  unfold primesTo
  rw [List.range_succ, List.filter_append]
  by_cases h1 : isPr p = true
  · simp [h1, h]
  · simp [h1]
set_option maxRecDepth 100000 in
theorem primes_few : (List.range 312).all (fun p => decide ((primesTo p).length < 64)) = true := by decide +kernel
theorem primes_lt (p : Nat) (h : p < 312) : (primesTo p).length < 64 := by
  have := List.all_eq_true.1 primes_few p (List.mem_range.2 h)
  simpa using this
set_option maxRecDepth 100000 in
theorem primes_64 : (primesTo 312).length = 64 := by decide +kernel
def primes : List Nat := primesTo 312
theorem mem_primes (x : Nat) (h : x ∈ primes) : x < 312 := by
  have := (List.mem_filter.1 h).1
  exact List.mem_range.1 this
set_option maxRecDepth 100000 in
theorem rootsK : (List.range 64).map (fun t => rootW (primes.getD t 0) 3) = K0 := by decide +kernel
set_option maxRecDepth 100000 in
theorem rootsF : (List.range 8).map (fun t => rootW (primes.getD t 0) 2) = F0.list := by decide +kernel
end Go.Proofs.Ytcjabfdjngekfaa.Sha
