/- Numbers and texts as bytes: the plain words of layer 1, no program in sight. -/
import Derived.Test.YtpldkplfdbjidaaWd
import Derived.Lib.BitFns
set_option linter.unusedVariables false
set_option linter.unusedSimpArgs false
namespace Go.Proofs.Ytpldkplfdbjidaa.Lay
open Go.Proofs.Ytpldkplfdbjidaa.Wd

/-- how many bytes a number has -/
def blen (v : Nat) : Nat := if h : v = 0 then 0 else blen (v / 256) + 1
termination_by v
decreasing_by exact Nat.div_lt_self (by omega) (by omega)
theorem blen_zero : blen 0 = 0 := by rw [blen]; simp
theorem blen_pos {v : Nat} (h : v ≠ 0) : blen v = blen (v / 256) + 1 := by rw [blen]; simp [h]
theorem blen_bitLen (v : Nat) (h : v < 18446744073709551616) : (Lib.bitLen v + 7) / 8 = blen v := by
  induction v using Nat.strongRecOn with
  | _ v ih =>
    by_cases h0 : v = 0
    · subst h0; rw [blen_zero]; decide
    · rw [blen_pos h0]
      by_cases hb : 256 ≤ v
      · rw [Lib.bitLen_shift8 v hb h, ← ih (v / 256) (by omega) (by omega)]; omega
      · have h1 := Lib.bitLen_le8' (v : Int) (by omega) (by omega)
        have h2 := Lib.bitLen_half v h0 (by omega)
        simp only [Int.toNat_natCast] at h1
        rw [show v / 256 = 0 by omega, blen_zero]; omega
/-- the n last bytes of a number, the greatest first -/
def be : Nat → Nat → List UInt8
  | 0, _ => []
  | n + 1, v => be n (v / 256) ++ [UInt8.ofNat (v % 256)]
/-- a number laid -/
def putN (v : Nat) : List UInt8 := UInt8.ofNat (blen v) :: be (blen v) v
/-- a text laid -/
def putT (s : List UInt8) : List UInt8 := putN s.length ++ s

theorem be_length (n v : Nat) : (be n v).length = n := by
  induction n generalizing v with
  | zero => rfl
  | succ n ih => simp [be, ih]
theorem lt_pow_blen (v : Nat) : v < 256 ^ blen v := by
  induction v using Nat.strongRecOn with
  | _ v ih =>
    by_cases h0 : v = 0
    · subst h0; rw [blen_zero]; decide
    · rw [blen_pos h0, Nat.pow_succ]
      have := ih (v / 256) (by omega); omega
theorem blen_lt {v k : Nat} (h : v < 256 ^ k) : blen v ≤ k := by
  induction k generalizing v with
  | zero => obtain rfl : v = 0 := by simpa using h
            rw [blen_zero]; omega
  | succ k ih =>
    by_cases h0 : v = 0
    · subst h0; rw [blen_zero]; omega
    · rw [blen_pos h0]; have := ih (v := v / 256) (by rw [Nat.pow_succ] at h; omega); omega
theorem blen_le {v : Nat} (h : v < 18446744073709551616) : blen v ≤ 8 := blen_lt (by simpa using h)
theorem putN_length (v : Nat) : (putN v).length = blen v + 1 := by simp [putN, be_length]

/-- the k greatest of n bytes -/
theorem be_take (n k v : Nat) (h : k ≤ n) : (be n v).take k = be k (v / 256 ^ (n - k)) := by
  induction n generalizing v with
  | zero => obtain rfl : k = 0 := by omega
            simp [be]
  | succ n ih =>
    by_cases hk : k = n + 1
    · subst hk; rw [List.take_of_length_le (by simp [be_length])]; simp
    · have hk' : k ≤ n := by omega
      rw [be, List.take_append_of_le_length (by simp [be_length]; omega), ih _ hk', Nat.div_div_eq_div_mul]
      congr 2
      rw [show n + 1 - k = (n - k) + 1 by omega, Nat.pow_succ, Nat.mul_comm]
theorem be_step (n k v : Nat) (h : k < n) : (be n v).take (k + 1) = (be n v).take k ++ [UInt8.ofNat (v / 256 ^ (n - 1 - k) % 256)] := by
  rw [be_take n (k + 1) v (by omega), be_take n k v (by omega), be, Nat.div_div_eq_div_mul]
  congr 3
  · rw [show n - k = (n - (k + 1)) + 1 by omega, Nat.pow_succ]
  · rw [show n - (k + 1) = n - 1 - k by omega]

theorem be_cons (j v : Nat) : be (j + 1) v = UInt8.ofNat (v / 256 ^ j % 256) :: be j v := by
  induction j generalizing v with
  | zero => simp [be]
  | succ j ih =>
    rw [be, ih (v / 256)]
    rw [show be (j + 1) v = be j (v / 256) ++ [UInt8.ofNat (v % 256)] from rfl, Nat.div_div_eq_div_mul, Nat.pow_succ, Nat.mul_comm 256 (256 ^ j)]
    rfl
theorem blen_eq_zero {v : Nat} (h : blen v = 0) : v = 0 := by
  by_cases h0 : v = 0
  · exact h0
  · rw [blen_pos h0] at h; omega
theorem blen_div (v j : Nat) (h : j ≤ blen v) : blen (v / 256 ^ j) = blen v - j := by
  induction j generalizing v with
  | zero => simp
  | succ j ih =>
    by_cases h0 : v = 0
    · subst h0; rw [blen_zero] at h; omega
    · rw [blen_pos h0] at h ⊢
      rw [Nat.pow_succ, Nat.mul_comm (256 ^ j) 256, ← Nat.div_div_eq_div_mul, ih (v / 256) (by omega)]; omega

/-- texts laid, one behind the other -/
def putTs (ls : List ByteArray) : List UInt8 := ls.flatMap fun s => putT s.data.toList
theorem putTs_take_le (ls : List ByteArray) (k : Nat) : (putTs (ls.take k)).length ≤ (putTs ls).length := flatMap_take_le _ ls k
theorem putTs_succ (ls : List ByteArray) (k : Nat) (h : k < ls.length) : putTs (ls.take (k + 1)) = putTs (ls.take k) ++ putT ls[k].data.toList := by
  unfold putTs
  rw [List.take_succ_eq_append_getElem h, List.flatMap_append]
  simp
theorem putTs_all (ls : List ByteArray) : putTs (ls.take ls.length) = putTs ls := by simp

theorem flatMap_putN_le (l : List Nat) (h : ∀ x ∈ l, x < 18446744073709551616) : (l.flatMap putN).length ≤ 9 * l.length := by
  induction l with
  | nil => simp
  | cons x l ih =>
    have h1 := ih (fun y hy => h y (List.mem_cons_of_mem _ hy))
    have h2 := blen_le (h x List.mem_cons_self)
    simp only [List.flatMap_cons, List.length_append, putN_length, List.length_cons]; omega
theorem putTs_le (l : List ByteArray) (h : ∀ x ∈ l, x.size ≤ 1000) : (putTs l).length ≤ 1009 * l.length := by
  induction l with
  | nil => simp [putTs]
  | cons x l ih =>
    have h1 := ih (fun y hy => h y (List.mem_cons_of_mem _ hy))
    have h3 := h x List.mem_cons_self
    have h2 := blen_le (v := x.size) (by omega)
    simp only [putTs, List.flatMap_cons, List.length_append, putT, putN_length, List.length_cons, data_length] at h1 ⊢; omega

theorem byte_shift (x d : Nat) : (((x : Int) / 2 ^ (8 * d)) % 256).toNat = x / 256 ^ d % 256 := by
  have h : ((2 : Int) ^ (8 * d)) = ((256 ^ d : Nat) : Int) := by
    rw [show (256 : Nat) = 2 ^ 8 from rfl, ← Nat.pow_mul]
    push_cast
    rfl
  rw [h]
  omega

end Go.Proofs.Ytpldkplfdbjidaa.Lay
