/- Envelopes: the plain words of layer 26, no program in sight. -/
import Derived.Test.YtcjabfdjngekfaaRdrPure
set_option linter.unusedVariables false
set_option linter.unusedSimpArgs false
namespace Go.Proofs.Ytcjabfdjngekfaa.Rel
open Go.Proofs.Ytcjabfdjngekfaa.Wd Go.Proofs.Ytcjabfdjngekfaa.Lay

structure E where
  (hops : List Int) (limit : Int) (inner : List UInt8)
def E.zero : E := ⟨[], 0, []⟩
def peerB (p : Int) : Bool := decide (0 ≤ p) && decide (p < 16)
def okAt (l : List Int) (i : Nat) : Bool := peerB (l.getD i 0) && !((l.take i).contains (l.getD i 0))
def okTo (l : List Int) : Nat → Bool
  | 0 => true
  | k + 1 => okTo l k && okAt l k
def E.lead (e : E) : Bool := decide (0 ≤ e.limit) && decide (e.limit ≤ 8) && decide ((e.hops.length : Int) ≤ e.limit) && decide (e.inner.length ≤ 65536)
def E.right (e : E) : Bool := e.lead && okTo e.hops e.hops.length
def E.head (e : E) : List UInt8 := putN 3 ++ putN e.limit.toNat ++ putN e.hops.length
def E.put (e : E) : List UInt8 := e.head ++ (e.hops.flatMap fun h => putN h.toNat) ++ putT e.inner
def rdHops : Nat → Rdr → List Int × Rdr
  | 0, r => ([], r)
  | k + 1, r => ((rdHops k r).1 ++ [(((rdHops k r).2.small 15).1 : Int)], ((rdHops k r).2.small 15).2)
/-- the reader behind the kind, the limit, the number of hops -/
def rd1 (s : List UInt8) : Rdr := (Rdr.number ⟨s, 0⟩).2
def rd2 (s : List UInt8) : Rdr := ((rd1 s).small 8).2
def rd3 (s : List UInt8) : Rdr := ((rd2 s).small 8).2
def rdN (s : List UInt8) : Nat := ((rd2 s).small 8).1
def rd4 (s : List UInt8) : Rdr := (rdHops (rdN s) (rd3 s)).2
def rd5 (s : List UInt8) : Rdr := ((rd4 s).text 65536).2
def kindOf (s : List UInt8) : Nat := (Rdr.number ⟨s, 0⟩).1
def E.raw (s : List UInt8) : E := ⟨(rdHops (rdN s) (rd3 s)).1, ((rd1 s).small 8).1, ((rd4 s).text 65536).1⟩
def E.good (s : List UInt8) : Bool := decide (kindOf s = 3) && decide ((rd5 s).fin = 0) && (E.raw s).right
def E.read (s : List UInt8) : E := if E.good s then E.raw s else E.zero
def E.pass (e : E) (by_ : Int) : E × Int :=
  if !e.right || !peerB by_ then (E.zero, 2) else if e.hops.contains by_ then (E.zero, 14) else if (e.hops.length : Int) = e.limit then (E.zero, 15) else (⟨e.hops ++ [by_], e.limit, e.inner⟩, 0)
theorem rdHops_length (n : Nat) (r : Rdr) : (rdHops n r).1.length = n := by
  induction n with
  | zero => rfl
  | succ n ih => simp [rdHops, ih]
theorem small_le (r : Rdr) (m : Nat) : (r.small m).1 ≤ m := by
  unfold Rdr.small
  split
  · simp
  · rename_i h
    by_cases h2 : r.number.2.bad = 0
    · have : ¬ ((m : Int) < 0 ∨ (m : Int) < r.number.1) := fun h3 => h ⟨h2, h3⟩
      omega
    · rw [r.number_bad h2]; omega
theorem rdHops_le (n : Nat) (r : Rdr) : ∀ x ∈ (rdHops n r).1, 0 ≤ x ∧ x ≤ 15 := by
  induction n with
  | zero => intro x hx; simp [rdHops] at hx
  | succ n ih =>
    intro x hx
    simp only [rdHops, List.mem_append, List.mem_singleton] at hx
    rcases hx with hx | rfl
    · exact ih x hx
    · have := small_le (rdHops n r).2 15
      simp only [Int.cast_ofNat_Int] at this
      omega
theorem kind_is (s : List UInt8) : decide (kindOf s = 3) = (decide (2 ≤ s.length) && decide (s.getD 0 0 = 1) && decide (s.getD 1 0 = 3)) := by
  unfold kindOf Rdr.number
  rw [if_pos rfl]
  rcases s with _ | ⟨c, l⟩
  · rfl
  · simp only [List.length_cons, List.getD_cons_zero, List.getD_cons_succ]
    have hc := c.toNat_lt
    split
    · rename_i h
      have : ¬ c = 1 := by rintro rfl; revert h; decide
      simp [this]
    · split
      · rename_i h1 h
        by_cases h1 : c = 1
        · subst h1
          have : l.length = 0 := by simpa using h
          simp [this]
        · simp [h1]
      · split
        · rename_i h1 h2 h
          obtain ⟨h3, h4⟩ := h
          rcases l with _ | ⟨d, l⟩
          · simp at h4
          · simp only [List.head?_cons, Option.some.injEq] at h4
            subst h4
            simp
        · rename_i h1 h2 h
          rcases Nat.lt_or_ge c.toNat 2 with h3 | h3
          · rcases Nat.eq_zero_or_pos c.toNat with h4 | h4
            · have : ¬ c = 1 := by rintro rfl; revert h4; decide
              simp [h4, ofBe, this]
            · have e : c = 1 := by apply UInt8.toNat_inj.1; show c.toNat = 1; omega
              subst e
              rcases l with _ | ⟨d, l⟩
              · exact absurd (show ([] : List UInt8).length < (1 : UInt8).toNat by decide) h2
              · have : ((1 : UInt8).toNat) = 1 := rfl
                simp only [this, List.take_succ_cons, List.take_zero, ofBe, List.foldl_cons, List.foldl_nil, List.length_cons, List.getD_cons_zero]
                have : (d.toNat = 3) ↔ d = 3 := by
                  constructor
                  · intro h5; apply UInt8.toNat_inj.1; show d.toNat = 3; omega
                  · rintro rfl; rfl
                simp [this]
          · have h5 : ¬ c = 1 := by rintro rfl; revert h3; decide
            have h6 : ¬ ofBe (l.take c.toNat) = 3 := by
              rcases l with _ | ⟨d, l⟩
              · simp at h2; omega
              · have hd : d ≠ 0 := by rintro rfl; exact h ⟨by omega, rfl⟩
                have hd2 : 0 < d.toNat := by
                  rcases Nat.eq_zero_or_pos d.toNat with h7 | h7
                  · exact absurd (UInt8.toNat_inj.1 (show d.toNat = (0 : UInt8).toNat from h7)) hd
                  · exact h7
                obtain ⟨k, hk⟩ : ∃ k, c.toNat = k + 2 := ⟨c.toNat - 2, by omega⟩
                rw [hk]
                rcases l with _ | ⟨d2, l⟩
                · simp at h2; omega
                · rw [List.take_succ_cons, List.take_succ_cons]
                  have grow : ∀ (m : List UInt8) (v : Nat), v ≤ m.foldl (fun v c => v * 256 + c.toNat) v := by
                    intro m
                    induction m with
                    | nil => intro v; exact Nat.le_refl _
                    | cons x m ih => intro v; rw [List.foldl_cons]; exact Nat.le_trans (by omega) (ih _)
                  have := grow (l.take k) ((0 * 256 + d.toNat) * 256 + d2.toNat)
                  intro h9
                  unfold ofBe at h9
                  rw [List.foldl_cons, List.foldl_cons] at h9
                  rw [h9] at this
                  omega
            rw [decide_eq_false h6, decide_eq_false h5]; simp
end Go.Proofs.Ytcjabfdjngekfaa.Rel
