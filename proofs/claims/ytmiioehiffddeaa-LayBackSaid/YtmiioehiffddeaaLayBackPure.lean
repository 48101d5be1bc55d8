/- Numbers and texts by turns, laid and read again, whole or cut by a byte: plain. -/
import Derived.Test.YtmiioehiffddeaaLayCanon
set_option linter.unusedVariables false
set_option linter.unusedSimpArgs false
namespace Go.Proofs.Ytmiioehiffddeaa.Lay
open Go.Proofs.Ytmiioehiffddeaa.Wd

def numAt (lv : List Nat) (i : Nat) : List UInt8 := match lv[i]? with | some x => putN x | none => []
def txtAt (ls : List ByteArray) (i : Nat) : List UInt8 := match ls[i]? with | some s => putT s.data.toList | none => []
def mixAt (lv : List Nat) (ls : List ByteArray) (i : Nat) : List UInt8 := numAt lv i ++ txtAt ls i
def mixTo (lv : List Nat) (ls : List ByteArray) : Nat → List UInt8
  | 0 => []
  | i + 1 => mixTo lv ls i ++ mixAt lv ls i
def mixFrom (lv : List Nat) (ls : List ByteArray) : Nat → Nat → List UInt8
  | 0, _ => []
  | d + 1, i => mixAt lv ls i ++ mixFrom lv ls d (i + 1)
theorem mixTo_from (lv : List Nat) (ls : List ByteArray) (d i : Nat) : mixTo lv ls (i + d) = mixTo lv ls i ++ mixFrom lv ls d i := by
  induction d generalizing i with
  | zero => simp [mixFrom]
  | succ d ih => rw [show i + (d + 1) = i + 1 + d by omega, ih, mixTo, mixFrom, List.append_assoc]

def stepN (x : Nat) (st : Rdr × Bool) : Rdr × Bool := if st.2 = true then (st.1.number.2, decide (st.1.number.1 = x)) else st
def stepT (y : List UInt8) (st : Rdr × Bool) : Rdr × Bool := if st.2 = true then ((st.1.text 1000).2, decide ((st.1.text 1000).1 = y)) else st
def stepNs (lv : List Nat) (i : Nat) (st : Rdr × Bool) : Rdr × Bool := match lv[i]? with | some x => stepN x st | none => st
def stepTs (ls : List ByteArray) (i : Nat) (st : Rdr × Bool) : Rdr × Bool := match ls[i]? with | some s => stepT s.data.toList st | none => st
def stepAt (lv : List Nat) (ls : List ByteArray) (i : Nat) (st : Rdr × Bool) : Rdr × Bool := stepTs ls i (stepNs lv i st)
def runTo (lv : List Nat) (ls : List ByteArray) (st : Rdr × Bool) : Nat → Rdr × Bool
  | 0 => st
  | i + 1 => stepAt lv ls i (runTo lv ls st i)

theorem putN_ne (x : Nat) : putN x ≠ [] := by simp [putN]
theorem putT_ne (s : List UInt8) : putT s ≠ [] := by simp [putT, putN]

theorem text_putT (s t : List UInt8) (h : s.length ≤ 1000) : (⟨putT s ++ t, 0⟩ : Rdr).text 1000 = (s, ⟨t, 0⟩) := by
  have hn := number_putN s.length (s ++ t) (by omega)
  rw [← List.append_assoc] at hn
  have hs : (⟨putT s ++ t, 0⟩ : Rdr).small 1000 = (s.length, ⟨s ++ t, 0⟩) := by
    unfold Rdr.small
    rw [show putT s ++ t = putN s.length ++ s ++ t from rfl, hn]
    rw [if_neg (by rintro ⟨_, h1 | h1⟩ <;> simp at h1; omega)]
  unfold Rdr.text
  rw [hs]
  unfold Rdr.raw
  simp only [if_true]
  rw [if_neg (by omega), if_neg (by simp; omega)]
  simp
theorem number_cut_bad (x : Nat) (h : x < 18446744073709551616) : (⟨(putN x).dropLast, 0⟩ : Rdr).number.2.bad ≠ 0 := by
  have h8 := blen_le h
  have hn : (UInt8.ofNat (blen x)).toNat = blen x := by rw [UInt8.toNat_ofNat']; omega
  have hl := be_length (blen x) x
  unfold putN
  cases hb : be (blen x) x with
  | nil => simp [Rdr.number, Rdr.stop]
  | cons c l =>
    rw [hb] at hl
    rw [List.dropLast_cons_of_ne_nil (by simp)]
    unfold Rdr.number
    simp only [if_true, hn]
    rw [if_neg (by omega), if_pos (by simp at hl ⊢; omega)]
    simp [Rdr.stop]
theorem text_bad (r : Rdr) (h : r.number.2.bad ≠ 0) (n : Int) : (r.text n).2.bad ≠ 0 := by
  unfold Rdr.text Rdr.small
  rw [if_neg (by rintro ⟨h1, _⟩; exact h h1)]
  unfold Rdr.raw
  rw [if_neg h]
  exact h
theorem text_cut_bad (s : List UInt8) (h : s.length ≤ 1000) : ((⟨(putT s).dropLast, 0⟩ : Rdr).text 1000).2.bad ≠ 0 := by
  by_cases hs : s = []
  · subst hs
    exact text_bad _ (by simpa [putT] using number_cut_bad 0 (by omega)) _
  · have hn := number_putN s.length s.dropLast (by omega)
    rw [putT, List.dropLast_append_of_ne_nil hs]
    have hsm : (⟨putN s.length ++ s.dropLast, 0⟩ : Rdr).small 1000 = (s.length, ⟨s.dropLast, 0⟩) := by
      unfold Rdr.small
      rw [hn]
      rw [if_neg (by rintro ⟨_, h1 | h1⟩ <;> simp at h1; omega)]
    unfold Rdr.text
    rw [hsm]
    unfold Rdr.raw
    have hpos : 0 < s.length := by cases s <;> simp at hs ⊢
    simp only [if_true]
    rw [if_neg (by omega), if_pos (by rw [List.length_dropLast]; omega)]
    simp [Rdr.stop]

section
variable {lv : List Nat} {ls : List ByteArray} (hlv : ∀ x ∈ lv, x < 18446744073709551616) (hls : ∀ s ∈ ls, s.size ≤ 1000)
include hlv hls
theorem stepAt_whole (i : Nat) (t : List UInt8) : stepAt lv ls i (⟨mixAt lv ls i ++ t, 0⟩, true) = (⟨t, 0⟩, true) := by
  unfold stepAt mixAt stepNs stepTs numAt txtAt
  have hN : ∀ x t, x < 18446744073709551616 → stepN x (⟨putN x ++ t, 0⟩, true) = (⟨t, 0⟩, true) := by
    intro x t hx
    unfold stepN
    simp [number_putN x t hx]
  have hT : ∀ (s : ByteArray) t, s.size ≤ 1000 → stepT s.data.toList (⟨putT s.data.toList ++ t, 0⟩, true) = (⟨t, 0⟩, true) := by
    intro s t hs
    unfold stepT
    simp [text_putT s.data.toList t (by rw [data_length]; exact hs)]
  cases hv : lv[i]? with
  | none =>
    cases hs : ls[i]? with
    | none => rfl
    | some s => simpa using hT s t (hls s (List.mem_of_getElem? hs))
  | some x =>
    cases hs : ls[i]? with
    | none => simpa using hN x t (hlv x (List.mem_of_getElem? hv))
    | some s =>
      simp only [List.append_assoc]
      rw [hN x _ (hlv x (List.mem_of_getElem? hv))]
      exact hT s t (hls s (List.mem_of_getElem? hs))
theorem stepAt_cut (i : Nat) (hi : i < lv.length ∨ i < ls.length) : (stepAt lv ls i (⟨(mixAt lv ls i).dropLast, 0⟩, true)).1.bad ≠ 0 := by
  unfold stepAt mixAt stepNs stepTs numAt txtAt
  cases hv : lv[i]? with
  | none =>
    cases hs : ls[i]? with
    | none =>
      rw [List.getElem?_eq_none_iff] at hv hs
      omega
    | some s =>
      have := text_cut_bad s.data.toList (by rw [data_length]; exact hls s (List.mem_of_getElem? hs))
      simpa [stepT] using this
  | some x =>
    have hx := hlv x (List.mem_of_getElem? hv)
    cases hs : ls[i]? with
    | none =>
      have := number_cut_bad x hx
      simpa [stepN] using this
    | some s =>
      have := text_cut_bad s.data.toList (by rw [data_length]; exact hls s (List.mem_of_getElem? hs))
      simp only
      rw [List.dropLast_append_of_ne_nil (putT_ne _)]
      have h1 : stepN x (⟨putN x ++ (putT s.data.toList).dropLast, 0⟩, true) = (⟨(putT s.data.toList).dropLast, 0⟩, true) := by
        unfold stepN
        simp [number_putN x _ hx]
      rw [h1]
      simpa [stepT] using this
theorem runTo_whole (M : Nat) : ∀ i, i ≤ M → runTo lv ls (⟨mixFrom lv ls M 0, 0⟩, true) i = (⟨mixFrom lv ls (M - i) i, 0⟩, true) := by
  intro i
  induction i with
  | zero => intro _; rfl
  | succ i ih =>
    intro hi
    rw [runTo, ih (by omega)]
    obtain ⟨d, hd⟩ : ∃ d, M - i = d + 1 := ⟨M - i - 1, by omega⟩
    rw [hd, mixFrom, stepAt_whole hlv hls, show M - (i + 1) = d by omega]
omit hlv hls in
theorem mixAt_ne (i : Nat) (hi : i < lv.length ∨ i < ls.length) : mixAt lv ls i ≠ [] := by
  unfold mixAt numAt txtAt
  cases hv : lv[i]? with
  | some x => simp [putN]
  | none =>
    cases hs : ls[i]? with
    | some s => simp [putT, putN]
    | none =>
      rw [List.getElem?_eq_none_iff] at hv hs
      omega
theorem runTo_cut (M : Nat) (hM : ∀ i, i < M → i < lv.length ∨ i < ls.length) : ∀ i, i < M → runTo lv ls (⟨(mixFrom lv ls M 0).dropLast, 0⟩, true) i = (⟨(mixFrom lv ls (M - i) i).dropLast, 0⟩, true) := by
  intro i
  induction i with
  | zero => intro _; rfl
  | succ i ih =>
    intro hi
    rw [runTo, ih (by omega)]
    obtain ⟨d, hd⟩ : ∃ d, M - i = d + 1 + 1 := ⟨M - i - 2, by omega⟩
    have hne : mixFrom lv ls (d + 1) (i + 1) ≠ [] := by
      rw [mixFrom]
      intro h
      exact mixAt_ne (i + 1) (hM (i + 1) hi) (List.append_eq_nil_iff.1 h).1
    rw [hd, mixFrom, List.dropLast_append_of_ne_nil hne, stepAt_whole hlv hls, show M - (i + 1) = d + 1 by omega]
theorem runTo_cut_bad (M : Nat) (h0 : 0 < M) (hM : ∀ i, i < M → i < lv.length ∨ i < ls.length) : (runTo lv ls (⟨(mixFrom lv ls M 0).dropLast, 0⟩, true) M).1.bad ≠ 0 := by
  obtain ⟨m, rfl⟩ : ∃ m, M = m + 1 := ⟨M - 1, by omega⟩
  rw [runTo, runTo_cut hlv hls (m + 1) hM m (by omega), show m + 1 - m = 0 + 1 by omega, mixFrom, mixFrom, List.append_nil]
  exact stepAt_cut hlv hls m (hM m (by omega))
omit hls in
theorem mixTo_le (k : Nat) (hls : ∀ j, j < k → ∀ s, ls[j]? = some s → s.size ≤ 1000) : (mixTo lv ls k).length ≤ 1018 * k := by
  induction k with
  | zero => simp [mixTo]
  | succ k ih =>
    have ih := ih (fun j hj => hls j (by omega))
    rw [mixTo, List.length_append]
    have h1 : (numAt lv k).length ≤ 9 := by
      unfold numAt
      cases hv : lv[k]? with
      | none => simp
      | some x => have := blen_le (hlv x (List.mem_of_getElem? hv)); simp only [putN_length]; omega
    have h2 : (txtAt ls k).length ≤ 1009 := by
      unfold txtAt
      cases hs : ls[k]? with
      | none => simp
      | some s =>
        have h3 := hls k (by omega) s hs
        have := blen_le (v := s.size) (by omega)
        simp only [putT, List.length_append, putN_length, data_length]; omega
    rw [mixAt, List.length_append]; omega
end
end Go.Proofs.Ytmiioehiffddeaa.Lay
