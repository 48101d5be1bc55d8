/- Ids' texts: plain words. -/
import Derived.Test.YtpldkplfdbjidaaIdsPure
set_option linter.unusedVariables false
set_option linter.unusedSimpArgs false
namespace Go.Proofs.Ytpldkplfdbjidaa.Ids

/-- a digit's sign -/
def hx (d : Nat) : UInt8 := [48, 49, 50, 51, 52, 53, 54, 55, 56, 57, 97, 98, 99, 100, 101, 102].getD d 0
/-- a byte's two signs -/
def h2 (b : UInt8) : List UInt8 := [hx (b.toNat / 16), hx (b.toNat % 16)]
def tx (l : List UInt8) : List UInt8 := l.flatMap h2
theorem tx_len (l : List UInt8) : (tx l).length = 2 * l.length := by
  induction l with
  | nil => rfl
  | cons b l ih => rw [tx, List.flatMap_cons, List.length_append, ← tx, ih, List.length_cons]; simp [h2]; omega
theorem tx_append (l m : List UInt8) : tx (l ++ m) = tx l ++ tx m := List.flatMap_append
theorem tx_snoc (l : List UInt8) {k : Nat} (h : k < l.length) : tx (l.take (k + 1)) = tx (l.take k) ++ h2 (l.getD k 0) := by
  rw [List.take_succ_eq_append_getElem h, tx_append, List.getD_eq_getElem?_getD, List.getElem?_eq_getElem h]; simp [tx]
/-- a sign's number -/
def dg (c : UInt8) : UInt8 × Bool := if 48 ≤ c ∧ c ≤ 57 then (c - 48, true) else if 97 ≤ c ∧ c ≤ 102 then (c - 97 + 10, true) else (0, false)
def okAt (s : List UInt8) (j : Nat) : Bool := (dg (s.getD (2 * j) 0)).2 && (dg (s.getD (2 * j + 1) 0)).2
def vAt (s : List UInt8) (j : Nat) : UInt8 := (dg (s.getD (2 * j) 0)).1 * 16 + (dg (s.getD (2 * j + 1) 0)).1
/-- so many bytes told -/
def pTo (s : List UInt8) : Nat → List UInt8
  | 0 => []
  | k + 1 => pTo s k ++ [vAt s k]
def okTo (s : List UInt8) : Nat → Bool
  | 0 => true
  | k + 1 => okTo s k && okAt s k
def zero32 : List UInt8 := List.replicate 32 0
def parse (s : List UInt8) : Id × Nat := if s.length = 64 ∧ okTo s 32 = true then (pTo s 32, 0) else (zero32, 11)
theorem pTo_len (s : List UInt8) : ∀ k, (pTo s k).length = k
  | 0 => rfl
  | k + 1 => by rw [pTo, List.length_append, pTo_len s k]; rfl
theorem okTo_mono {s : List UInt8} {k m : Nat} (h : okTo s m = true) (hk : k ≤ m) : okTo s k = true := by
  induction m with
  | zero => obtain rfl : k = 0 := by omega
            rfl
  | succ m ih =>
    rcases Nat.lt_or_ge k (m + 1) with h1 | h1
    · simp only [okTo, Bool.and_eq_true] at h; exact ih h.1 (by omega)
    · obtain rfl : k = m + 1 := by omega
      exact h
theorem okTo_false {s : List UInt8} {k m : Nat} (h : okTo s k = false) (hk : k ≤ m) : okTo s m = false := by
  cases h1 : okTo s m with
  | false => rfl
  | true => rw [okTo_mono h1 hk] at h; cases h
theorem dg_hx : ∀ d, d < 16 → dg (hx d) = (UInt8.ofNat d, true) := by decide
theorem h2_dg : ∀ c : UInt8, (dg c).2 = true → hx (dg c).1.toNat = c ∧ (dg c).1.toNat < 16 := by
  have h : ∀ n : Fin 256, (dg (UInt8.ofNat n.val)).2 = true → hx (dg (UInt8.ofNat n.val)).1.toNat = UInt8.ofNat n.val ∧ (dg (UInt8.ofNat n.val)).1.toNat < 16 := by decide +kernel
  intro c hc
  have := h ⟨c.toNat, c.toNat_lt⟩
  simp only [UInt8.ofNat_toNat] at this
  exact this hc
theorem two_digits (a b : UInt8) (ha : a.toNat < 16) (hb : b.toNat < 16) : (a * 16 + b).toNat / 16 = a.toNat ∧ (a * 16 + b).toNat % 16 = b.toNat := by
  have h : (a * 16 + b).toNat = a.toNat * 16 + b.toNat := by
    rw [UInt8.toNat_add, UInt8.toNat_mul]
    show (a.toNat * 16 % 256 + b.toNat) % 256 = _
    omega
  rw [h]; omega
/-- what is told of a text has this text -/
theorem tx_pTo (s : List UInt8) : ∀ k, 2 * k ≤ s.length → okTo s k = true → tx (pTo s k) = s.take (2 * k)
  | 0, _, _ => by simp [pTo, tx]
  | k + 1, h, ho => by
    simp only [okTo, okAt, Bool.and_eq_true] at ho
    obtain ⟨h1, h3, h4⟩ := ho
    rw [pTo, tx_append, tx_pTo s k (by omega) h1]
    have e : s.take (2 * (k + 1)) = s.take (2 * k) ++ [s.getD (2 * k) 0, s.getD (2 * k + 1) 0] := by
      rw [show 2 * (k + 1) = 2 * k + 1 + 1 by omega, List.take_succ_eq_append_getElem (by omega), List.take_succ_eq_append_getElem (by omega)]
      simp only [List.getD_eq_getElem?_getD, List.getElem?_eq_getElem (show 2 * k < s.length by omega), List.getElem?_eq_getElem (show 2 * k + 1 < s.length by omega), Option.getD_some]
      rw [List.append_assoc]; rfl
    rw [e]
    congr 1
    obtain ⟨p1, p2⟩ := h2_dg _ h3
    obtain ⟨p3, p4⟩ := h2_dg _ h4
    obtain ⟨q1, q2⟩ := two_digits _ _ p2 p4
    simp only [tx, List.flatMap_cons, List.flatMap_nil, List.append_nil, h2, vAt, q1, q2, p1, p3]
theorem tx_get (a : List UInt8) : ∀ k, k < a.length → (tx a).getD (2 * k) 0 = hx ((a.getD k 0).toNat / 16) ∧ (tx a).getD (2 * k + 1) 0 = hx ((a.getD k 0).toNat % 16) := by
  induction a with
  | nil => intro k hk; simp at hk
  | cons b a ih =>
    intro k hk
    have e : tx (b :: a) = hx (b.toNat / 16) :: hx (b.toNat % 16) :: tx a := by simp [tx, h2]
    rw [e]
    cases k with
    | zero => exact ⟨rfl, rfl⟩
    | succ k =>
      rw [show 2 * (k + 1) = 2 * k + 1 + 1 by omega]
      simp only [List.getD_cons_succ]
      exact ih k (by simpa using hk)
/-- an id comes back from its text -/
theorem pTo_tx (a : List UInt8) : ∀ k, k ≤ a.length → okTo (tx a) k = true ∧ pTo (tx a) k = a.take k
  | 0, _ => ⟨rfl, by simp [pTo]⟩
  | k + 1, h => by
    obtain ⟨h1, h2⟩ := pTo_tx a k (by omega)
    obtain ⟨g1, g2⟩ := tx_get a k (by omega)
    have b1 := (a.getD k 0).toNat_lt
    have d1 := dg_hx ((a.getD k 0).toNat / 16) (by omega)
    have d2 := dg_hx ((a.getD k 0).toNat % 16) (by omega)
    refine ⟨by rw [okTo, h1, okAt, g1, g2, d1, d2]; rfl, ?_⟩
    rw [pTo, h2, List.take_succ_eq_append_getElem (by omega)]
    congr 2
    rw [vAt, g1, g2, d1, d2]
    have e : a[k]'(by omega) = a.getD k 0 := by rw [List.getD_eq_getElem?_getD, List.getElem?_eq_getElem (by omega)]; rfl
    rw [e]
    apply UInt8.toNat_inj.1
    rw [UInt8.toNat_add, UInt8.toNat_mul, UInt8.toNat_ofNat', UInt8.toNat_ofNat']
    show ((a.getD k 0).toNat / 16 % 256 * 16 % 256 + (a.getD k 0).toNat % 16 % 256) % 256 = _
    omega
theorem parse_tx {a : List UInt8} (ha : a.length = 32) : parse (tx a) = (a, 0) := by
  obtain ⟨h1, h2⟩ := pTo_tx a 32 (by omega)
  rw [parse, if_pos ⟨by rw [tx_len, ha], h1⟩, h2, List.take_of_length_le (by omega)]
theorem parse_len (s : List UInt8) : (parse s).1.length = 32 := by
  unfold parse; split
  · exact pTo_len s 32
  · rfl
/-- any text is an id's, or none -/
theorem parse_any (s : List UInt8) : ((parse s).2 = 0 ∧ tx (parse s).1 = s) ∨ ((parse s).2 = 11 ∧ (parse s).1 = zero32) := by
  unfold parse
  split
  · rename_i h
    left
    refine ⟨rfl, ?_⟩
    show tx (pTo s 32) = s
    rw [tx_pTo s 32 (by omega) h.2, List.take_of_length_le (by omega)]
  · right; exact ⟨rfl, rfl⟩
end Go.Proofs.Ytpldkplfdbjidaa.Ids
