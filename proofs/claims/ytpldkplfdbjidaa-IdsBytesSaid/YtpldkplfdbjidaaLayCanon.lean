/- What is read as a number is laid again as just these bytes, and what is laid is read: plain. -/
import Derived.Test.YtpldkplfdbjidaaRdrPure
set_option linter.unusedVariables false
set_option linter.unusedSimpArgs false
namespace Go.Proofs.Ytpldkplfdbjidaa.Lay
open Go.Proofs.Ytpldkplfdbjidaa.Wd

theorem rev_ind {α : Type} {P : List α → Prop} (h0 : P []) (h1 : ∀ l c, P l → P (l ++ [c])) (l : List α) : P l := by
  have : ∀ m : List α, P m.reverse := by
    intro m
    induction m with
    | nil => exact h0
    | cons c m ih => rw [List.reverse_cons]; exact h1 _ _ ih
  simpa using this l.reverse

theorem be_ofBe (l : List UInt8) : be l.length (ofBe l) = l := by
  induction l using rev_ind with
  | h0 => rfl
  | h1 l c ih =>
    have hc := c.toNat_lt
    rw [List.length_append, List.length_singleton, be, ofBe_snoc, show (ofBe l * 256 + c.toNat) / 256 = ofBe l by omega, ih, show (ofBe l * 256 + c.toNat) % 256 = c.toNat by omega]
    simp
theorem ofBe_be (n v : Nat) (h : v < 256 ^ n) : ofBe (be n v) = v := by
  induction n generalizing v with
  | zero => simp at h; subst h; rfl
  | succ n ih =>
    have h2 : v % 256 < 256 := Nat.mod_lt _ (by omega)
    rw [be, ofBe_snoc, ih (v / 256) (by rw [Nat.pow_succ] at h; omega), UInt8.toNat_ofNat']
    omega
theorem ofBe_ge (l : List UInt8) (v : Nat) : v * 256 ^ l.length ≤ l.foldl (fun v c => v * 256 + c.toNat) v := by
  induction l generalizing v with
  | nil => simp
  | cons c l ih =>
    rw [List.foldl_cons, List.length_cons, Nat.pow_succ, Nat.mul_comm (256 ^ l.length) 256, ← Nat.mul_assoc]
    exact Nat.le_trans (Nat.mul_le_mul_right _ (by omega)) (ih (v * 256 + c.toNat))
theorem blen_ge {v k : Nat} (h : 256 ^ k ≤ v) : k + 1 ≤ blen v := by
  have h1 := lt_pow_blen v
  rcases Nat.lt_or_ge k (blen v) with h2 | h2
  · omega
  · have := Nat.pow_le_pow_right (n := 256) (by omega) h2
    omega
theorem blen_ofBe (l : List UInt8) (h : l = [] ∨ l.head? ≠ some 0) : blen (ofBe l) = l.length := by
  refine Nat.le_antisymm (blen_lt (ofBe_lt l)) ?_
  cases l with
  | nil => simp
  | cons d l =>
    refine blen_ge ?_
    have hd : d.toNat ≠ 0 := by
      intro h0
      have : d = 0 := UInt8.toNat_inj.1 h0
      simp [this] at h
    have h1 := ofBe_ge l d.toNat
    have h2 : ofBe (d :: l) = l.foldl (fun v c => v * 256 + c.toNat) d.toNat := by simp [ofBe]
    rw [h2]
    exact Nat.le_trans (Nat.le_mul_of_pos_left _ (by omega)) h1

/-- a number that is read: its bytes stood there as they are laid -/
theorem number_canon (b : List UInt8) (h : (⟨b, 0⟩ : Rdr).number.2.bad = 0) :
    b = putN (⟨b, 0⟩ : Rdr).number.1 ++ (⟨b, 0⟩ : Rdr).number.2.b := by
  unfold Rdr.number at h ⊢
  simp only [if_true] at h ⊢
  cases b with
  | nil => simp [Rdr.stop] at h
  | cons c l =>
    simp only at h ⊢
    by_cases h1 : 8 < c.toNat
    · rw [if_pos h1] at h; simp [Rdr.stop] at h
    rw [if_neg h1] at h ⊢
    by_cases h2 : l.length < c.toNat
    · rw [if_pos h2] at h; simp [Rdr.stop] at h
    rw [if_neg h2] at h ⊢
    by_cases h3 : 0 < c.toNat ∧ l.head? = some 0
    · rw [if_pos h3] at h; simp [Rdr.stop] at h
    rw [if_neg h3]
    simp only
    have hl : (l.take c.toNat).length = c.toNat := by rw [List.length_take]; omega
    have hb : blen (ofBe (l.take c.toNat)) = c.toNat := by
      rw [blen_ofBe, hl]
      by_cases h0 : c.toNat = 0
      · left; rw [h0]; rfl
      · right
        intro h4
        refine h3 ⟨by omega, ?_⟩
        rw [List.head?_take, if_neg h0] at h4
        exact h4
    have he := be_ofBe (l.take c.toNat)
    rw [hl] at he
    rw [putN, hb, he]
    simp
theorem number_shorter (b : List UInt8) (h : (⟨b, 0⟩ : Rdr).number.2.bad = 0) : (⟨b, 0⟩ : Rdr).number.2.b.length < b.length := by
  have h1 := congrArg List.length (number_canon b h)
  rw [List.length_append, putN_length] at h1
  omega
theorem number_ended (r : Rdr) (h : r.number.2.bad ≠ 0) (h0 : r.bad = 0) : r.number.2.b = [] := by
  unfold Rdr.number at h ⊢
  rw [if_pos h0] at h ⊢
  split
  · rfl
  · rename_i c l e
    rw [e] at h
    simp only at h
    split
    · rfl
    · split
      · rfl
      · split
        · rfl
        · rename_i h1 h2 h3
          rw [if_neg h1, if_neg h2, if_neg h3] at h
          exact absurd rfl h
/-- what is laid is read -/
theorem number_putN (v : Nat) (rest : List UInt8) (h : v < 18446744073709551616) : (⟨putN v ++ rest, 0⟩ : Rdr).number = (v, ⟨rest, 0⟩) := by
  have h8 := blen_le h
  have hn : (UInt8.ofNat (blen v)).toNat = blen v := by rw [UInt8.toNat_ofNat']; omega
  have hl := be_length (blen v) v
  unfold Rdr.number
  simp only [if_true, putN, List.cons_append, hn]
  rw [if_neg (by omega), if_neg (by rw [List.length_append, hl]; omega)]
  have hz : ¬ (0 < blen v ∧ (be (blen v) v ++ rest).head? = some 0) := by
    rintro ⟨h1, h2⟩
    obtain ⟨n, hb⟩ : ∃ n, blen v = n + 1 := ⟨blen v - 1, by omega⟩
    rw [hb, be_cons] at h2
    simp only [List.cons_append, List.head?_cons, Option.some.injEq] at h2
    have h3 := congrArg UInt8.toNat h2
    rw [UInt8.toNat_ofNat'] at h3
    have h4 := blen_div v n (by omega)
    have h5 : blen (v / 256 ^ n) = 1 := by omega
    have h6 := lt_pow_blen (v / 256 ^ n)
    rw [h5] at h6
    obtain ⟨x, hx⟩ : ∃ x, x = v / 256 ^ n := ⟨_, rfl⟩
    rw [← hx] at h3 h5 h6
    have h7 : x = 0 := by simp at h3; omega
    rw [h7, blen_zero] at h5
    omega
  rw [if_neg hz, List.take_left' hl, List.drop_left' hl, ofBe_be _ _ (lt_pow_blen v)]
end Go.Proofs.Ytpldkplfdbjidaa.Lay
