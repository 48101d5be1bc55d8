/- bytes.Equal, bytes.HasPrefix, of byte rows that read. -/
import Derived.Test.YtcjabfdjngekfaaShelf
import Derived.Test.YtcjabfdjngekfaaWd
set_option linter.unusedVariables false
set_option linter.unusedSimpArgs false
namespace Go.Proofs.Ytcjabfdjngekfaa.Byt
open Go.RowKit Go.Proofs.Ytcjabfdjngekfaa.Wd
def nums (l : List UInt8) : List Int := l.map fun b => (b.toNat : Int)
theorem nums_length (l : List UInt8) : (nums l).length = l.length := by simp [nums]
theorem bytesOf_nums (l : List UInt8) : Lib.bytesOf (nums l) = l := by
  simp only [Lib.bytesOf, nums, List.map_map]
  conv => rhs; rw [← List.map_id l]
  apply List.map_congr_left
  intro b _
  simp
theorem in_of {w : World} {A : Option Addr} {n c : Nat} {l : List UInt8} (h : Rd w 1 (.slice A n c) l.length (bs l)) (hn : n = l.length) : Lib.BytesIn w A n (nums l) := by
  intro h0
  obtain ⟨b, off, rfl, -, -, -, hc⟩ := h.at_ (by omega)
  refine ⟨b, off, rfl, fun i hi => ?_⟩
  rw [hc i (by rw [bs_length]; omega)]
  simp [nums, bs, List.getD_eq_getElem?_getD, List.getElem?_eq_getElem (show i < l.length by omega)]
theorem equal_any (v1 v2 : Value) (l1 l2 : List UInt8) (w : World) (h1 : Rd w 1 v1 l1.length (bs l1)) (h2 : Rd w 1 v2 l2.length (bs l2)) :
    Calls Try.prog 94 #[v1, v2] w fun e w' => e = .returned (.bool (l1 == l2)) ∧ w' = w := by
  obtain ⟨A1, c1, rfl, -, -, -⟩ := h1.slice_
  obtain ⟨A2, c2, rfl, -, -, -⟩ := h2.slice_
  have h := Try.bytes_Equal_all A1 A2 l1.length c1 l2.length c2 (nums l1) (nums l2) w (nums_length _) (nums_length _) (in_of h1 rfl) (in_of h2 rfl)
  rw [bytesOf_nums, bytesOf_nums] at h
  exact h
theorem prefix_any (v1 v2 : Value) (l1 l2 : List UInt8) (w : World) (h1 : Rd w 1 v1 l1.length (bs l1)) (h2 : Rd w 1 v2 l2.length (bs l2)) :
    Calls Try.prog 93 #[v1, v2] w fun e w' => e = .returned (.bool (decide (l2.length ≤ l1.length) && (l1.take l2.length == l2))) ∧ w' = w := by
  obtain ⟨A1, c1, rfl, hc, -, -⟩ := h1.slice_
  obtain ⟨A2, c2, rfl, -, -, -⟩ := h2.slice_
  have h := Try.bytes_HasPrefix_all A1 A2 l1.length c1 l2.length c2 (nums l1) (nums l2) w (nums_length _) (nums_length _) hc (in_of h1 rfl) (in_of h2 rfl)
  rw [bytesOf_nums, bytesOf_nums, ← Lib.hasPrefix_of_take] at h
  exact h
end Go.Proofs.Ytcjabfdjngekfaa.Byt
