/- Opening arguments: sums, ids, updates. -/
import Derived.Test.YtpldkplfdbjidaaOpenS
import Derived.Test.YtpldkplfdbjidaaUpdW
set_option linter.unusedVariables false
set_option linter.unusedSimpArgs false
namespace Go.Proofs.Ytpldkplfdbjidaa.Opn
open Go.RowKit Go.Proofs.Ytpldkplfdbjidaa.Wd Go.ChangeShapes Go.WideShapes Go.ChangeAt
open Go.Proofs.Ytpldkplfdbjidaa.Ids (W32 ix)
open Go.Proofs.Ytpldkplfdbjidaa.Upd (U UIn)

variable {H : Type} {enc : TypeId × Value → H} {w : World} {spare : Nat → Bool} {held : Bool}
theorem dropU {cs : List Value} {n : Nat} {x : Value} (h : (cs.drop n).take 1 = [x]) : cs.drop n = x :: cs.drop (n + 1) := by
  have : cs.drop n = (cs.drop n).take 1 ++ (cs.drop n).drop 1 := (List.take_append_drop 1 _).symm
  rw [this, h, List.drop_drop]; rfl
set_option maxRecDepth 100000 in
theorem tr_sum32 {cs : List Value} (h : Tr enc Try.prog w spare held 23 cs) : ∃ l : List UInt8, cs = bs l ∧ l.length = 32 :=
  tr_sum Try.underlying23 Try.underlying5 (by kernel_rfl) (by kernel_rfl) h
theorem flatten_ids (xs : List (List Value)) (h : ∀ x ∈ xs, ∃ l : List UInt8, x = bs l ∧ l.length = 32) : ∃ l : List Ids.Id, xs.flatten = ix l ∧ l.length = xs.length ∧ W32 l := by
  induction xs with
  | nil => exact ⟨[], rfl, rfl, Ids.W32.nil⟩
  | cons x xs ih =>
    obtain ⟨e, rfl, he⟩ := h x List.mem_cons_self
    obtain ⟨l, h1, h2, h3⟩ := ih (fun y hy => h y (List.mem_cons_of_mem _ hy))
    refine ⟨e :: l, ?_, by simp [h2], fun f hf => ?_⟩
    · rw [List.flatten_cons, h1]; simp [ix, bs_append]
    · rcases List.mem_cons.1 hf with rfl | hf
      · exact he
      · exact h3 f hf
set_option maxRecDepth 100000 in
theorem tr_ids {t : TypeId} {cs : List Value} (ht : Try.prog.underlying t = some (.slice 23)) (h : Tr enc Try.prog w spare held t cs) : ∃ (v : Value) (l : List Ids.Id), cs = [v] ∧ Rd w 32 v l.length (ix l) ∧ W32 l := by
  have hc : Try.prog.cellsOf 23 = 32 := by kernel_rfl
  obtain ⟨fuel, y, h⟩ := h
  obtain ⟨v, xs, rfl, hR, hx⟩ := open_slice_in ht (by rw [hc]; decide) h
  rw [hc] at hR
  obtain ⟨l, h1, h2, h3⟩ := flatten_ids xs (fun x hx1 => by obtain ⟨-, fuel, y, h2⟩ := hx x hx1; exact tr_sum32 ⟨fuel, y, h2⟩)
  rw [h1, ← h2] at hR
  exact ⟨v, l, rfl, hR, h3⟩
set_option maxRecDepth 100000 in
theorem open_ids {t : TypeId} {v : Value} {d : DataW H} {p : List MemPlace} {r : Reach} {base : Nat} (ht : Try.prog.underlying t = some (.slice 23)) (hv : Value.okWide Try.prog w r base t v) (h : DataW.Trod enc Try.prog w 0 spare held t v d p) :
    ∃ l : List Ids.Id, Rd w 32 v l.length (ix l) ∧ W32 l := by
  have hc : Try.prog.cellsOf 23 = 32 := by kernel_rfl
  obtain ⟨xs, hR, hx⟩ := open_slice ht (by rw [hc]; decide) hv h
  rw [hc] at hR
  obtain ⟨l, h1, h2, h3⟩ := flatten_ids xs (fun x hx1 => by obtain ⟨-, fuel, y, h2⟩ := hx x hx1; exact tr_sum32 ⟨fuel, y, h2⟩)
  rw [h1, ← h2] at hR
  exact ⟨l, hR, h3⟩
set_option maxRecDepth 100000 in
theorem okWide_arrU {P : Program} {r : Reach} {base : Nat} {t e : TypeId} {n : Nat} {v : Value} (ht : P.underlying t = some (.array n e)) (h : Value.okWide P w r base t v) : ∃ cs, v = .agg cs ∧ cs.size = P.cellsOf t := by
  simp only [Value.okWide, ht] at h
  obtain ⟨cs, h1, h2, _⟩ := h
  exact ⟨cs, h1, h2⟩
set_option maxRecDepth 100000 in
theorem open_sum {v : Value} {d : DataW H} {p : List MemPlace} {r : Reach} {base : Nat} (hv : Value.okWide Try.prog w r base 23 v) (h : DataW.Trod enc Try.prog w 0 spare held 23 v d p) :
    ∃ l : List UInt8, v = .agg (bs l).toArray ∧ l.length = 32 := by
  obtain ⟨cs, rfl, hsz⟩ := okWide_arrU Try.underlying23 hv
  obtain ⟨fuel, hf⟩ := h
  obtain ⟨l, h1, h2⟩ := tr_sum32 (cs := cs.toList) ⟨fuel, _, hf⟩
  exact ⟨l, by rw [← h1], h2⟩
set_option maxRecDepth 100000 in
theorem tr_upd {cs : List Value} (h : Tr enc Try.prog w spare held 69 cs) : ∃ u pv, cs = [.int .i64 u.au, .int .u64 (u.ct : Int), pv, .int .i64 u.kd, .string (str u.ky), .string (str u.vl)] ∧ UIn w u pv := by
  obtain ⟨hl, hx⟩ := tr_struct Try.underlying69 h
  rw [show Try.prog.cellsOf 69 = 6 by kernel_rfl] at hl
  have c3 : Try.prog.cellsOf 3 = 1 := by kernel_rfl
  have cu : Try.prog.cellsOf 67 = 1 := by kernel_rfl
  have ci : Try.prog.cellsOf 34 = 1 := by kernel_rfl
  have c9 : Try.prog.cellsOf 9 = 1 := by kernel_rfl
  have h0 : Tr enc Try.prog w spare held 3 ((cs.drop 0).take 1) := by rw [← c3]; exact hx 0 _ rfl
  have h1 : Tr enc Try.prog w spare held 67 ((cs.drop 1).take 1) := by rw [← cu]; exact hx 1 _ rfl
  have h2 : Tr enc Try.prog w spare held 34 ((cs.drop 2).take 1) := by rw [← ci]; exact hx 2 _ rfl
  have h3 : Tr enc Try.prog w spare held 3 ((cs.drop 3).take 1) := by
    have h := hx 3 _ rfl
    have h2 : Tr enc Try.prog w spare held 3 ((cs.drop 3).take (Try.prog.cellsOf 3)) := h
    rw [c3] at h2
    exact h2
  have h4 : Tr enc Try.prog w spare held 9 ((cs.drop 4).take 1) := by rw [← c9]; exact hx 4 _ rfl
  have h5 : Tr enc Try.prog w spare held 9 ((cs.drop 5).take 1) := by
    have h := hx 5 _ rfl
    have h2 : Tr enc Try.prog w spare held 9 ((cs.drop 5).take (Try.prog.cellsOf 9)) := h
    rw [c9] at h2
    exact h2
  obtain ⟨a, e0, w0⟩ := tr_int Try.underlying3 h0
  obtain ⟨c, e1, w1⟩ := tr_int Try.underlying67 h1
  obtain ⟨pv, l, e2, hr, h32⟩ := tr_ids Try.underlying34 h2
  obtain ⟨k, e3, w3⟩ := tr_int Try.underlying3 h3
  obtain ⟨s, e4, w4⟩ := tr_string Try.underlying9 h4
  obtain ⟨s', e5, w5⟩ := tr_string Try.underlying9 h5
  have w1' := wf_u64 w1
  have hc : ((c.toNat : Nat) : Int) = c := Int.toNat_of_nonneg w1'.1
  refine ⟨⟨a, c.toNat, l, k, s.data.toList, s'.data.toList⟩, pv, ?_, ⟨hr, h32, wf_i64 w0, wf_i64 w3, by simp only; omega, by rw [data_length]; unfold maxLen at w4; exact w4, by rw [data_length]; unfold maxLen at w5; exact w5⟩⟩
  have e : cs = cs.drop 0 := rfl
  rw [e, dropU e0, dropU e1, dropU e2, dropU e3, dropU e4, dropU e5, List.drop_of_length_le (by omega), str_toList, str_toList, hc]
set_option maxRecDepth 100000 in
theorem open_upd {v : Value} {d : DataW H} {p : List MemPlace} {r : Reach} {base : Nat} (hv : Value.okWide Try.prog w r base 69 v) (h : DataW.Trod enc Try.prog w 0 spare held 69 v d p) :
    ∃ u pv, v = .agg #[.int .i64 u.au, .int .u64 (u.ct : Int), pv, .int .i64 u.kd, .string (str u.ky), .string (str u.vl)] ∧ UIn w u pv := by
  obtain ⟨cs, rfl, ht⟩ := open_struct Try.underlying69 hv h
  obtain ⟨a, vp, rfl, hi⟩ := tr_upd ht
  exact ⟨a, vp, rfl, hi⟩
end Go.Proofs.Ytpldkplfdbjidaa.Opn
