/- LayNobody's walk -/
import Derived.Test.YtmiioehiffddeaaLayOne
set_option linter.unusedVariables false
set_option linter.unusedSimpArgs false
namespace Go.Proofs.Ytmiioehiffddeaa.Lay
open Go.RowKit Go.Proofs.Ytmiioehiffddeaa.Wd

set_option maxRecDepth 100000 in
set_option maxHeartbeats 1000000 in
theorem LayNobody_any (n : Int) (w : World) (_ : (Lit.int .i64 n).wf = true) : Calls Try.prog 11 #[.int .i64 n] w fun e w' => e = .returned (.bool true) ∧ Below w.heap.size w w' := by
  go_enter Try.func11, Try.ntmps11
  go_wp2_with fail
  go_loopw [3] (fun i wr => ∃ k : Nat, k ≤ 2 ∧ i = .int .i64 k ∧ Below w.heap.size w wr) (fun i _ => 2 - (intOf i).toNat)
  case atStart => exact ⟨0, by omega, rfl, Below.refl _ _⟩
  case round =>
    obtain ⟨k, hk, rfl, hB⟩ := hrel
    rcases (show k = 0 ∨ k = 1 ∨ k = 2 by omega) with rfl | rfl | rfl
    · have hB2 := hB.alloc hB.size (.cells #[.bool false, .string ⟨#[]⟩, .int .i64 0] 92)
      have hN := Nob.zero (wr.alloc (.cells #[.bool false, .string ⟨#[]⟩, .int .i64 0] 92)) wr.heap.size (by rw [blk_cell (heap_alloc_new _ _) 0]; rfl)
      have H1 := Lib.hid hN.number
      have H2 := Lib.hid (hN.small n)
      have H3 := Lib.hid (hN.text n)
      have H4 := Lib.hid (hN.raw n)
      have H5 := Lib.hid hN.left
      have H6 := Lib.hid hN.bad
      have H7 := Lib.hid hN.fin
      clear hN
      go_wp2_with (first | (go_at_call 39; go_must (refine H1.out.mono ?_); rintro e w' ⟨rfl, rfl⟩) | (go_at_call 47; go_must (refine H2.out.mono ?_); rintro e w' ⟨rfl, rfl⟩) | (go_at_call 40; go_must (refine H3.out.mono ?_); rintro e w' ⟨rfl, rfl⟩) | (go_at_call 50; go_must (refine H4.out.mono ?_); rintro e w' ⟨rfl, rfl⟩) | (go_at_call 51; go_must (refine H5.out.mono ?_); rintro e w' ⟨rfl, rfl⟩) | (go_at_call 52; go_must (refine H6.out.mono ?_); rintro e w' ⟨rfl, rfl⟩) | (go_at_call 41; go_must (refine H7.out.mono ?_); rintro e w' ⟨rfl, rfl⟩))
      exact ⟨⟨1, by omega, rfl, hB2⟩, by simp [intOf]⟩
    · have hN := Nob.nil (wr.alloc (.cells #[.bool false, .string ⟨#[]⟩, .int .i64 0] 92))
      have hB2 := hB.alloc hB.size (.cells #[.bool false, .string ⟨#[]⟩, .int .i64 0] 92)
      have H1 := Lib.hid hN.number
      have H2 := Lib.hid (hN.small n)
      have H3 := Lib.hid (hN.text n)
      have H4 := Lib.hid (hN.raw n)
      have H5 := Lib.hid hN.left
      have H6 := Lib.hid hN.bad
      have H7 := Lib.hid hN.fin
      clear hN
      go_wp2_with (first | (go_at_call 39; go_must (refine H1.out.mono ?_); rintro e w' ⟨rfl, rfl⟩) | (go_at_call 47; go_must (refine H2.out.mono ?_); rintro e w' ⟨rfl, rfl⟩) | (go_at_call 40; go_must (refine H3.out.mono ?_); rintro e w' ⟨rfl, rfl⟩) | (go_at_call 50; go_must (refine H4.out.mono ?_); rintro e w' ⟨rfl, rfl⟩) | (go_at_call 51; go_must (refine H5.out.mono ?_); rintro e w' ⟨rfl, rfl⟩) | (go_at_call 52; go_must (refine H6.out.mono ?_); rintro e w' ⟨rfl, rfl⟩) | (go_at_call 41; go_must (refine H7.out.mono ?_); rintro e w' ⟨rfl, rfl⟩))
      exact ⟨⟨2, by omega, rfl, hB2⟩, by simp [intOf]⟩
    · go_wp2_with (go_at_call 37; go_must (refine (one_any _).mono ?_); rintro e w' ⟨rfl, hb⟩)
      go_ret
      exact ⟨rfl, below_then hB hB.size hb⟩
end Go.Proofs.Ytmiioehiffddeaa.Lay
