/- Opening arguments: volumes. -/
import Derived.Test.YtcjabfdjngekfaaOpenS
import Derived.Test.YtcjabfdjngekfaaVolW
set_option linter.unusedVariables false
set_option linter.unusedSimpArgs false
namespace Go.Proofs.Ytcjabfdjngekfaa.Opn
open Go.RowKit Go.Proofs.Ytcjabfdjngekfaa.Wd Go.ChangeShapes Go.WideShapes Go.ChangeAt
open Go.Proofs.Ytcjabfdjngekfaa.Vol (V VIn vcells I64)

variable {H : Type} {enc : TypeId × Value → H} {w : World} {spare : Nat → Bool} {held : Bool}
theorem drop1 {cs : List Value} {n : Nat} {x : Value} (h : (cs.drop n).take 1 = [x]) : cs.drop n = x :: cs.drop (n + 1) := by
  have : cs.drop n = (cs.drop n).take 1 ++ (cs.drop n).drop 1 := (List.take_append_drop 1 _).symm
  rw [this, h, List.drop_drop]; rfl
theorem okWide_arr {P : Program} {r : Reach} {base : Nat} {t e : TypeId} {n : Nat} {v : Value} (ht : P.underlying t = some (.array n e)) (h : Value.okWide P w r base t v) : ∃ cs, v = .agg cs ∧ cs.size = P.cellsOf t := by
  simp only [Value.okWide, ht] at h
  obtain ⟨cs, h1, h2, _⟩ := h
  exact ⟨cs, h1, h2⟩
theorem open_array {P : Program} {t e : TypeId} {n : Nat} {v : Value} {d : DataW H} {p : List MemPlace} {r : Reach} {base : Nat} (ht : P.underlying t = some (.array n e)) (hv : Value.okWide P w r base t v) (h : DataW.Trod enc P w 0 spare held t v d p) :
    ∃ cs : List Value, v = .agg cs.toArray ∧ Tr enc P w spare held t cs := by
  obtain ⟨cs, rfl, hsz⟩ := okWide_arr ht hv
  obtain ⟨fuel, hf⟩ := h
  exact ⟨cs.toList, by simp, fuel, _, hf⟩
set_option maxRecDepth 100000 in
theorem tr_vol {cs : List Value} (h : Tr enc Try.prog w spare held 46 cs) : ∃ v vp, cs = vcells v vp ∧ VIn w v vp := by
  obtain ⟨hl, hx⟩ := tr_struct Try.underlying46 h
  rw [show Try.prog.cellsOf 46 = 37 by kernel_rfl] at hl
  have c44 : Try.prog.cellsOf 44 = 32 := by kernel_rfl
  have c3 : Try.prog.cellsOf 3 = 1 := by kernel_rfl
  have c23 : Try.prog.cellsOf 23 = 1 := by kernel_rfl
  have h0 : Tr enc Try.prog w spare held 44 (cs.take 32) := by rw [← c44]; exact hx 0 _ rfl
  have h1 : Tr enc Try.prog w spare held 3 ((cs.drop 32).take 1) := by rw [← c3]; exact hx 1 _ rfl
  have h2 : Tr enc Try.prog w spare held 3 ((cs.drop 33).take 1) := by rw [← c3]; exact hx 2 _ rfl
  have h3 : Tr enc Try.prog w spare held 3 ((cs.drop 34).take 1) := by rw [← c3]; exact hx 3 _ rfl
  have h4 : Tr enc Try.prog w spare held 3 ((cs.drop 35).take 1) := by rw [← c3]; exact hx 4 _ rfl
  have h5 : Tr enc Try.prog w spare held 23 ((cs.drop 36).take 1) := by rw [← c23]; exact hx 5 _ rfl
  obtain ⟨bd, e0, hbd⟩ := tr_sum Try.underlying44 Try.underlying5 (by kernel_rfl) (by kernel_rfl) h0
  obtain ⟨ix, e1, w1⟩ := tr_int Try.underlying3 h1
  obtain ⟨dt, e2, w2⟩ := tr_int Try.underlying3 h2
  obtain ⟨mr, e3, w3⟩ := tr_int Try.underlying3 h3
  obtain ⟨lg, e4, w4⟩ := tr_int Try.underlying3 h4
  obtain ⟨vp, pc, e5, hp⟩ := tr_bytes Try.underlying23 Try.underlying5 (by kernel_rfl) h5
  refine ⟨⟨bd, ix, dt, mr, lg, pc⟩, vp, ?_, ⟨hbd, wf_i64 w1, wf_i64 w2, wf_i64 w3, wf_i64 w4, hp⟩⟩
  have e : cs = cs.take 32 ++ cs.drop 32 := (List.take_append_drop 32 cs).symm
  rw [e, e0, drop1 e1, drop1 e2, drop1 e3, drop1 e4, drop1 e5, List.drop_of_length_le (by omega)]
  rfl
set_option maxRecDepth 100000 in
theorem open_vol {v : Value} {d : DataW H} {p : List MemPlace} {r : Reach} {base : Nat} (hv : Value.okWide Try.prog w r base 46 v) (h : DataW.Trod enc Try.prog w 0 spare held 46 v d p) :
    ∃ a vp, v = .agg (vcells a vp).toArray ∧ VIn w a vp := by
  obtain ⟨cs, rfl, ht⟩ := open_struct Try.underlying46 hv h
  obtain ⟨a, vp, rfl, hi⟩ := tr_vol ht
  exact ⟨a, vp, rfl, hi⟩
set_option maxRecDepth 100000 in
theorem open_vol2 {v : Value} {d : DataW H} {p : List MemPlace} {r : Reach} {base : Nat} (hv : Value.okWide Try.prog w r base 47 v) (h : DataW.Trod enc Try.prog w 0 spare held 47 v d p) :
    ∃ a va b vb, v = .agg (vcells a va ++ vcells b vb).toArray ∧ VIn w a va ∧ VIn w b vb := by
  obtain ⟨cs, rfl, ht⟩ := open_array Try.underlying47 hv h
  obtain ⟨hl, hx⟩ := tr_array Try.underlying47 ht
  rw [show Try.prog.cellsOf 47 = 74 by kernel_rfl] at hl
  rw [show Try.prog.cellsOf 46 = 37 by kernel_rfl] at hx
  have h0 := hx 0 (by omega)
  have h1 := hx 1 (by omega)
  rw [Nat.zero_mul, List.drop_zero] at h0
  rw [Nat.one_mul] at h1
  obtain ⟨a, va, e0, ha⟩ := tr_vol h0
  obtain ⟨b, vb, e1, hb⟩ := tr_vol h1
  refine ⟨a, va, b, vb, ?_, ha, hb⟩
  rw [← e0, ← e1, List.take_of_length_le (l := cs.drop 37) (by rw [List.length_drop]; omega), List.take_append_drop]
end Go.Proofs.Ytcjabfdjngekfaa.Opn
