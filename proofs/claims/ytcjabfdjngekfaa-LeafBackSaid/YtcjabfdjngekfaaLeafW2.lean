/- Leaves' walks: Blocks. -/
import Derived.Test.YtcjabfdjngekfaaLeafW
set_option linter.unusedVariables false
set_option linter.unusedSimpArgs false
namespace Go.Proofs.Ytcjabfdjngekfaa.Leaf
open Go.RowKit Go.Proofs.Ytcjabfdjngekfaa.Wd Go.Proofs.Ytcjabfdjngekfaa.Use Go.Proofs.Ytcjabfdjngekfaa.Lay

set_option maxRecDepth 100000 in
theorem Blocks_none (n : Int) (w : World) (h : n < 1) : Calls Try.prog 27 #[.int .i64 n] w fun r w' => r = .returned (.int .i64 0) ∧ w' = w := by
  have hd : decide (n < 1) = true := decide_eq_true h
  go_enter Try.func27, Try.ntmps27
  go_wp2_with fail
  go_ret
  exact ⟨rfl, rfl⟩
set_option maxRecDepth 100000 in
theorem Blocks_some (n : Int) (w : World) (h : 1 ≤ n) (hn : n ≤ 1000000) : Calls Try.prog 27 #[.int .i64 n] w fun r w' => r = .returned (.int .i64 ((n - 1) / 256 + 1)) ∧ w' = w := by
  have hd : decide (n < 1) = false := decide_eq_false (by omega)
  have hq : (n - 1).tdiv 256 = (n - 1) / 256 := Int.tdiv_eq_ediv_of_nonneg (by omega)
  have hw : IntKind.i64.wrap (n - 1) = n - 1 := by rw [IntKind.wrap_i64]; omega
  have hw2 : IntKind.i64.wrap ((n - 1) / 256 + 1) = (n - 1) / 256 + 1 := by rw [IntKind.wrap_i64]; omega
  have hw3 : IntKind.i64.wrap ((n - 1) / 256) = (n - 1) / 256 := by rw [IntKind.wrap_i64]; omega
  go_enter Try.func27, Try.ntmps27
  go_wp2_with fail
  go_ret
  exact ⟨rfl, rfl⟩
set_option maxRecDepth 100000 in
set_option maxHeartbeats 4000000 in
theorem rSize_any (l : List L) (v : Value) (w : World) (hv : Rd w 3 v l.length (ls l)) (hn : l.length ≤ 1000000) (hk : ∀ e ∈ l, e.key.length ≤ 1000000) :
    Calls Try.prog 21 #[v] w fun r w' => r = .returned (.int .i64 (sizeTo l l.length : Int)) ∧ Below w.heap.size w w' := by
  obtain ⟨A, c, rfl, hc1, hc2, -⟩ := hv.slice_
  unfold maxLen at hc2
  have Hv := Lib.hid hv
  have Hk := Lib.hid hk
  clear hv hk
  go_enter Try.func21, Try.ntmps21
  go_wp2_with fail
  go_loopw [3, 4] (fun s i wr => ∃ k : Nat, k ≤ l.length ∧ i = .int .i64 (k : Int) ∧ s = .int .i64 (sizeTo l k : Int) ∧ sizeTo l k ≤ 1 + k * 1000005 ∧ Below w.heap.size w wr) (fun _ i _ => l.length - (intOf i).toNat)
  case atStart => exact ⟨0, by omega, rfl, rfl, by simp [sizeTo], Below.refl _ _⟩
  case round =>
    obtain ⟨k, hkl, rfl, rfl, hs, hB⟩ := hrel
    by_cases hkn : k < l.length
    · obtain ⟨b, off, rfl, hcell⟩ := ents_at (Hv.out.below hB) rfl (by omega)
      obtain ⟨c0, c1, c2⟩ := hcell k hkn
      obtain ⟨e, he⟩ : ∃ e, e = l.getD k L.zero := ⟨_, rfl⟩
      rw [← he] at c0 c1 c2
      have hkk : e.key.length ≤ 1000000 := Hk.out e (by rw [he, List.getD_eq_getElem?_getD, List.getElem?_eq_getElem hkn]; exact List.getElem_mem hkn)
      have hz : sizeTo l (k + 1) = sizeTo l k + (5 + e.key.length) := by rw [sizeTo, ← he]
      have Hz := Lib.hid hz
      have hss := str_size e.key
      clear hcell he hz
      generalize hzk : sizeTo l k = z at hs Hz ⊢
      clear hzk
      have hd1 : decide ((k : Int) < (l.length : Int)) = true := decide_eq_true (by omega)
      go_wp2_with fail
      exact ⟨⟨k + 1, by omega, by go_num, by rw [Hz.out]; go_num, by rw [Hz.out]; omega, hB⟩, by simp only [intOf]; omega⟩
    · obtain rfl : k = l.length := by omega
      go_wp2_with fail
      go_ret
      exact ⟨rfl, hB⟩
set_option maxRecDepth 100000 in
set_option maxHeartbeats 4000000 in
/-- true only of what is short enough -/
theorem fair_any (l : List L) (v : Value) (w : World) (hv : Rd w 3 v l.length (ls l)) (hk : ∀ e ∈ l, e.key.length ≤ maxLen) :
    Calls Try.prog 15 #[v] w fun r w' => ∃ f : Bool, r = .returned (.bool f) ∧ (f = true → l.length ≤ 60 ∧ ∀ k, k < l.length → (l.getD k L.zero).key.length ≤ 200) ∧ Below w.heap.size w w' := by
  obtain ⟨A, c, rfl, hc1, hc2, -⟩ := hv.slice_
  unfold maxLen at hc2
  have Hv := Lib.hid hv
  have Hk := Lib.hid hk
  clear hv hk
  by_cases h60 : l.length ≤ 60
  rotate_left
  · have hd : decide ((60 : Int) < (l.length : Int)) = true := decide_eq_true (by omega)
    go_enter Try.func15, Try.ntmps15
    go_wp2_with fail
    go_ret
    exact ⟨false, rfl, by simp, Below.refl _ _⟩
  have hd : decide ((60 : Int) < (l.length : Int)) = false := decide_eq_false (by omega)
  go_enter Try.func15, Try.ntmps15
  go_wp2_with fail
  go_loopw [3] (fun i wr => ∃ k : Nat, k ≤ l.length ∧ i = .int .i64 (k : Int) ∧ (∀ j, j < k → (l.getD j L.zero).key.length ≤ 200) ∧ Below w.heap.size w wr) (fun i _ => l.length - (intOf i).toNat)
  case atStart => exact ⟨0, by omega, rfl, by intro j hj; omega, Below.refl _ _⟩
  case round =>
    obtain ⟨k, hkl, rfl, hs, hB⟩ := hrel
    have Hs := Lib.hid hs
    clear hs
    by_cases hkn : k < l.length
    · obtain ⟨b, off, rfl, hcell⟩ := ents_at (Hv.out.below hB) rfl (by omega)
      obtain ⟨c0, c1, c2⟩ := hcell k hkn
      obtain ⟨e, he⟩ : ∃ e, e = l.getD k L.zero := ⟨_, rfl⟩
      rw [← he] at c0 c1 c2
      have hkk : e.key.length ≤ maxLen := Hk.out e (by rw [he, List.getD_eq_getElem?_getD, List.getElem?_eq_getElem hkn]; exact List.getElem_mem hkn)
      have hss := str_size e.key
      have He := Lib.hid he
      clear hcell he
      have hd1 : decide ((k : Int) < (l.length : Int)) = true := decide_eq_true (by omega)
      by_cases h2 : e.key.length ≤ 200
      · have hd2 : decide ((200 : Int) < (e.key.length : Int)) = false := decide_eq_false (by omega)
        go_wp2_with fail
        exact ⟨⟨k + 1, by omega, by go_num, fun j hj => by rcases Nat.lt_or_ge j k with h3 | h3; exact Hs.out j h3; obtain rfl : j = k := by omega
                                                           rw [← He.out]; exact h2, hB⟩, by simp only [intOf]; omega⟩
      · have hd2 : decide ((200 : Int) < (e.key.length : Int)) = true := decide_eq_true (by omega)
        go_wp2_with fail
        go_ret
        exact ⟨false, rfl, by simp, hB⟩
    · obtain rfl : k = l.length := by omega
      have hd1 : decide ((l.length : Int) < (l.length : Int)) = false := decide_eq_false (by omega)
      go_wp2_with fail
      go_ret
      exact ⟨true, rfl, fun _ => ⟨h60, Hs.out⟩, hB⟩
end Go.Proofs.Ytcjabfdjngekfaa.Leaf
