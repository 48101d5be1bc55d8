/- Opening arguments: envelopes. -/
import Derived.Test.YtcjabfdjngekfaaOpenS
import Derived.Test.YtcjabfdjngekfaaRelW
set_option linter.unusedVariables false
set_option linter.unusedSimpArgs false
namespace Go.Proofs.Ytcjabfdjngekfaa.Opn
open Go.RowKit Go.Proofs.Ytcjabfdjngekfaa.Wd Go.ChangeShapes Go.WideShapes Go.ChangeAt
open Go.Proofs.Ytcjabfdjngekfaa.Rel (E EIn)
open Go.Proofs.Ytcjabfdjngekfaa.Use (is)

variable {H : Type} {enc : TypeId × Value → H} {w : World} {spare : Nat → Bool} {held : Bool}
theorem drop1 {cs : List Value} {n : Nat} {x : Value} (h : (cs.drop n).take 1 = [x]) : cs.drop n = x :: cs.drop (n + 1) := by
  have : cs.drop n = (cs.drop n).take 1 ++ (cs.drop n).drop 1 := (List.take_append_drop 1 _).symm
  rw [this, h, List.drop_drop]; rfl
set_option maxRecDepth 100000 in
theorem tr_env {cs : List Value} (h : Tr enc Try.prog w spare held 56 cs) : ∃ e hv, cs = [hv, .int .i64 e.limit, .string (str e.inner)] ∧ EIn w e hv := by
  obtain ⟨hl, hx⟩ := tr_struct Try.underlying56 h
  rw [show Try.prog.cellsOf 56 = 3 by kernel_rfl] at hl
  have c3 : Try.prog.cellsOf 3 = 1 := by kernel_rfl
  have c54 : Try.prog.cellsOf 54 = 1 := by kernel_rfl
  have c9 : Try.prog.cellsOf 9 = 1 := by kernel_rfl
  have h0 : Tr enc Try.prog w spare held 54 ((cs.drop 0).take 1) := by rw [← c54]; exact hx 0 _ rfl
  have h1 : Tr enc Try.prog w spare held 3 ((cs.drop 1).take 1) := by
    have h := hx 1 _ rfl
    have h2 : Tr enc Try.prog w spare held 3 ((cs.drop 1).take (Try.prog.cellsOf 3)) := h
    rw [c3] at h2
    exact h2
  have h2 : Tr enc Try.prog w spare held 9 ((cs.drop 2).take 1) := by rw [← c9]; exact hx 2 _ rfl
  obtain ⟨hv, l, e0, hr, hb⟩ := tr_ints Try.underlying54 Try.underlying3 (by kernel_rfl) h0
  obtain ⟨lm, e1, w1⟩ := tr_int Try.underlying3 h1
  obtain ⟨s, e2, w2⟩ := tr_string Try.underlying9 h2
  refine ⟨⟨l, lm, s.data.toList⟩, hv, ?_, ⟨hr, wf_i64 w1, fun x hx => hb x hx, by rw [data_length]; unfold maxLen at w2; exact w2⟩⟩
  have e : cs = cs.drop 0 := rfl
  rw [e, drop1 e0, drop1 e1, drop1 e2, List.drop_of_length_le (by omega), str_toList]
set_option maxRecDepth 100000 in
theorem open_env {v : Value} {d : DataW H} {p : List MemPlace} {r : Reach} {base : Nat} (hv : Value.okWide Try.prog w r base 56 v) (h : DataW.Trod enc Try.prog w 0 spare held 56 v d p) :
    ∃ e hv, v = .agg #[hv, .int .i64 e.limit, .string (str e.inner)] ∧ EIn w e hv := by
  obtain ⟨cs, rfl, ht⟩ := open_struct Try.underlying56 hv h
  obtain ⟨a, vp, rfl, hi⟩ := tr_env ht
  exact ⟨a, vp, rfl, hi⟩
end Go.Proofs.Ytcjabfdjngekfaa.Opn
