/- A set's bytes, read with any bound: plain words. -/
import Derived.Test.YtpldkplfdbjidaaUpdPure
import Derived.Test.YtpldkplfdbjidaaOfPure
set_option linter.unusedVariables false
set_option linter.unusedSimpArgs false
namespace Go.Proofs.Ytpldkplfdbjidaa.Ids
open Go.Proofs.Ytpldkplfdbjidaa.Lay Go.Proofs.Ytpldkplfdbjidaa.Upd

theorem read_put_m {l : List Id} {m : Nat} (h : W32 l) (hl : l.length ≤ m) (hm : m < 18446744073709551616) (hu : up l = true) : read (put l) m = (l, 0) := by
  have h1 := small_putN l.length m l.flatten hl hm
  have h2 := rl_flat l [] [] h
  simp only [List.append_nil, List.nil_append] at h2
  unfold read put
  rw [h1]
  simp only
  rw [h2]
  simp [fin_nil, hu]
theorem read_more_m {l : List Id} {m : Nat} (h : W32 l) (hl : l.length ≤ m) (hm : m < 18446744073709551616) (c : UInt8) : (read (put l ++ [c]) m).2 = 11 := by
  have h1 := small_putN l.length m (l.flatten ++ [c]) hl hm
  have h2 := rl_flat l [] [c] h
  simp only [List.nil_append] at h2
  unfold read put
  rw [List.append_assoc, h1]
  simp only
  rw [h2]
  simp [fin_more]
theorem read_few {l : List Id} {most : Int} (hm : most < (l.length : Int)) (hl : l.length < 18446744073709551616) : (read (put l) most).2 = 3 := by
  have h1 : (⟨put l, 0⟩ : Rdr).small most = (0, ⟨[], 3⟩) := by
    unfold Rdr.small put
    rw [number_putN l.length l.flatten hl, if_pos ⟨rfl, .inr hm⟩]
    rfl
  unfold read
  rw [h1]
  simp [rl]
theorem read_back_m (b : List UInt8) (m : Nat) (h : (read b m).2 = 0) : b = put (read b m).1 ∧ W32 (read b m).1 ∧ (read b m).1.length ≤ m ∧ up (read b m).1 = true := by
  unfold read at *
  simp only at h ⊢
  generalize hs : (⟨b, 0⟩ : Rdr).small m = s at h ⊢
  split at h
  · rename_i hb; exact absurd h hb
  · rename_i hb
    rw [if_neg hb]
    split at h
    · cases h
    · rename_i hc
      rw [if_neg hc]
      simp only [not_or, Decidable.not_not] at hc hb
      obtain ⟨h1, l, h2, h3, h4, h5⟩ := rl_back s.1 s.2 [] hb
      obtain ⟨-, h6, h7⟩ := sml_back ⟨b, 0⟩ m (by rw [hs]; exact h1)
      rw [hs] at h6 h7
      obtain ⟨-, h8⟩ := fin_zero hc.1
      rw [List.nil_append] at h2
      simp only at h6 ⊢
      rw [h2] at hc ⊢
      rw [h8, List.append_nil] at h5
      refine ⟨by rw [h6, put, h3, h5], h4, by omega, by have := hc.2; revert this; cases up l <;> simp⟩
theorem read_cut {l : List Id} {m : Nat} (h : W32 l) (hl : l.length ≤ m) (hm : m < 18446744073709551616) (hu : up l = true) : (read (put l).dropLast m).2 ≠ 0 := by
  intro hg
  obtain ⟨k1, k2, k3, k4⟩ := read_back_m _ m hg
  have hne : put l ≠ [] := by simp [put, putN]
  have e : put l = put (read (put l).dropLast m).1 ++ [(put l).getLast hne] := by rw [← k1]; exact (List.dropLast_concat_getLast hne).symm
  have h1 := read_put_m h hl hm hu
  have h2 := read_more_m k2 k3 hm ((put l).getLast hne)
  rw [← e, h1] at h2
  cases h2
theorem put_len {l : List Id} (h : W32 l) : 1 ≤ (put l).length ∧ (put l).length ≤ (putN l.length).length + l.length * 32 := by
  rw [put, List.length_append, h.flat]
  exact ⟨by rw [putN_length]; omega, by omega⟩
end Go.Proofs.Ytpldkplfdbjidaa.Ids
