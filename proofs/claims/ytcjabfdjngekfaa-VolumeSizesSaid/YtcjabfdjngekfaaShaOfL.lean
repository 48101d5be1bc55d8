/- ShaOf's walk. -/
import Derived.Test.YtcjabfdjngekfaaRef02O
import Derived.Test.YtcjabfdjngekfaaShaParts
import Derived.Test.YtcjabfdjngekfaaOrdL
import Derived.Laws.Bits128
set_option linter.unusedVariables false
set_option linter.unusedSimpArgs false
namespace Go.Proofs.Ytcjabfdjngekfaa.Sha
open Go.RowKit Go.Proofs.Ytcjabfdjngekfaa.Wd

/-- b[at:at+n], at below the capacity -/
theorem Rd.sub {w : World} {m c : Nat} {A : Option Addr} {xs : List Value} (h : Rd w 1 (.slice A m c) m xs) (at_ n : Nat) (hn : at_ + n ≤ m) : Rd w 1 (.slice (A.map fun x => x.add at_) n (c - at_)) n ((xs.drop at_).take n) := by
  obtain ⟨hl, A', c', hA, h1, h2, h3⟩ := h
  injection hA with hA1 _ hA3
  subst hA1 hA3
  rw [Nat.mul_one] at hl
  refine ⟨by rw [List.length_take, List.length_drop]; omega, _, _, rfl, by omega, by omega, fun h0 => ?_⟩
  obtain ⟨b, off, rfl, hc⟩ := h3 (by omega)
  refine ⟨b, off + at_, by simp [add_plain], fun i hi => ?_⟩
  rw [Nat.add_assoc, hc (at_ + i) (by omega), List.getElem?_take, if_pos (by omega), List.getElem?_drop]
theorem Rd.sub0 {w : World} {m c at_ n : Nat} {A : Option Addr} {xs : List Value} (h : Rd w 1 (.slice A m c) m xs) (hn : at_ + n ≤ m) (hc : c = at_) : Rd w 1 (.slice A n (c - at_)) n ((xs.drop at_).take n) := by
  obtain ⟨hl, A', c', hA, h1, h2, h3⟩ := h
  injection hA with hA1 _ hA3
  subst hA1 hA3
  have : n = 0 := by omega
  subst this
  exact ⟨by simp, _, _, rfl, by omega, by omega, fun h0 => by omega⟩
end Go.Proofs.Ytcjabfdjngekfaa.Sha
