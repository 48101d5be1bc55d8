/- Layer 1: a reader that nobody made; the known play of its laws -/
import Derived.Test.YtmiioehiffddeaaLayW
import Derived.Test.YtmiioehiffddeaaRdrW
set_option linter.unusedVariables false
set_option linter.unusedSimpArgs false
namespace Go.Proofs.Ytmiioehiffddeaa.Lay
open Go.RowKit Go.Proofs.Ytmiioehiffddeaa.Wd

/-- a pointer that leads to no reader that was made -/
def Nob (w : World) (p : Option Addr) : Prop := Calls Try.prog 67 #[.pointer p] w fun e w' => e = .returned (.bool true) ∧ w = w'

theorem Nob.nil (w : World) : Nob w none := by
  unfold Nob
  go_enter Try.func67, Try.ntmps67
  go_wp2
  go_ret
  exact ⟨rfl, rfl⟩
theorem Nob.zero (w : World) (g : Nat) (h : w.cell? ⟨g, 0, none⟩ = some (.bool false)) : Nob w (some ⟨g, 0, none⟩) := by
  unfold Nob
  go_enter Try.func67, Try.ntmps67
  go_wp2
  go_ret
  exact ⟨rfl, rfl⟩
theorem Nob.fine {w : World} {p : Option Addr} (h : Nob w p) : Calls Try.prog 61 #[.pointer p] w fun e w' => e = .returned (.bool false) ∧ w = w' := by
  have Hn := Lib.hid h
  clear h
  go_enter Try.func61, Try.ntmps61
  go_wp2_with (go_at_call 67; go_must (refine Calls.mono Hn.out ?_); rintro e w' ⟨rfl, rfl⟩)
  go_ret
  exact ⟨rfl, rfl⟩
theorem Nob.number {w : World} {p : Option Addr} (h : Nob w p) : Calls Try.prog 39 #[.pointer p] w fun e w' => e = .returned (.int .u64 0) ∧ w = w' := by
  have Hf := Lib.hid h.fine
  clear h
  go_enter Try.func39, Try.ntmps39
  go_wp2_with (go_at_call 61; go_must (refine Hf.out.mono ?_); rintro e w' ⟨rfl, rfl⟩)
  go_ret
  exact ⟨rfl, rfl⟩
theorem Nob.small {w : World} {p : Option Addr} (h : Nob w p) (n : Int) : Calls Try.prog 47 #[.pointer p, .int .i64 n] w fun e w' => e = .returned (.int .i64 0) ∧ w = w' := by
  have Hf := Lib.hid h.fine
  have Hn := Lib.hid h.number
  clear h
  go_enter Try.func47, Try.ntmps47
  go_wp2_with (first | (go_at_call 61; go_must (refine Hf.out.mono ?_); rintro e w' ⟨rfl, rfl⟩) | (go_at_call 39; go_must (refine Hn.out.mono ?_); rintro e w' ⟨rfl, rfl⟩))
  go_ret
  exact ⟨rfl, rfl⟩
theorem Nob.raw {w : World} {p : Option Addr} (h : Nob w p) (n : Int) : Calls Try.prog 50 #[.pointer p, .int .i64 n] w fun e w' => e = .returned (.string ⟨#[]⟩) ∧ w = w' := by
  have Hf := Lib.hid h.fine
  clear h
  go_enter Try.func50, Try.ntmps50
  go_wp2_with (go_at_call 61; go_must (refine Hf.out.mono ?_); rintro e w' ⟨rfl, rfl⟩)
  go_ret
  exact ⟨rfl, rfl⟩
theorem Nob.text {w : World} {p : Option Addr} (h : Nob w p) (n : Int) : Calls Try.prog 40 #[.pointer p, .int .i64 n] w fun e w' => e = .returned (.string ⟨#[]⟩) ∧ w = w' := by
  have Hs := Lib.hid (h.small n)
  have Hr := Lib.hid (h.raw 0)
  clear h
  go_enter Try.func40, Try.ntmps40
  go_wp2_with (first | (go_at_call 47; go_must (refine Hs.out.mono ?_); rintro e w' ⟨rfl, rfl⟩) | (go_at_call 50; go_must (refine Hr.out.mono ?_); rintro e w' ⟨rfl, rfl⟩))
  go_ret
  exact ⟨rfl, rfl⟩
theorem Nob.left {w : World} {p : Option Addr} (h : Nob w p) : Calls Try.prog 51 #[.pointer p] w fun e w' => e = .returned (.int .i64 0) ∧ w = w' := by
  have Hn := Lib.hid h
  clear h
  go_enter Try.func51, Try.ntmps51
  go_wp2_with (go_at_call 67; go_must (refine Calls.mono Hn.out ?_); rintro e w' ⟨rfl, rfl⟩)
  go_ret
  exact ⟨rfl, rfl⟩
theorem Nob.bad {w : World} {p : Option Addr} (h : Nob w p) : Calls Try.prog 52 #[.pointer p] w fun e w' => e = .returned (.int .i64 1) ∧ w = w' := by
  have Hn := Lib.hid h
  clear h
  go_enter Try.func52, Try.ntmps52
  go_wp2_with (go_at_call 67; go_must (refine Calls.mono Hn.out ?_); rintro e w' ⟨rfl, rfl⟩)
  go_ret
  exact ⟨rfl, rfl⟩
theorem Nob.fin {w : World} {p : Option Addr} (h : Nob w p) : Calls Try.prog 41 #[.pointer p] w fun e w' => e = .returned (.int .i64 1) ∧ w = w' := by
  have Hf := Lib.hid h.fine
  have Hb := Lib.hid h.bad
  clear h
  go_enter Try.func41, Try.ntmps41
  go_wp2_with (first | (go_at_call 61; go_must (refine Hf.out.mono ?_); rintro e w' ⟨rfl, rfl⟩) | (go_at_call 52; go_must (refine Hb.out.mono ?_); rintro e w' ⟨rfl, rfl⟩))
  go_ret
  exact ⟨rfl, rfl⟩

theorem blen_258 : blen 258 = 2 := by rw [← blen_bitLen _ (by decide)]; decide
theorem blen_1 : blen 1 = 1 := by rw [← blen_bitLen _ (by decide)]; decide
theorem one_bytes : [] ++ [258].flatMap putN ++ putTs [⟨#[97]⟩] = [2, 1, 2, 1, 1, 97] := by
  show (putN 258 ++ []) ++ ((putN 1 ++ [97]) ++ []) = _
  simp [putN, blen_258, blen_1, be]

set_option maxRecDepth 100000 in
set_option maxHeartbeats 1000000 in
theorem one_any (w : World) : Calls Try.prog 37 #[] w fun e w' => e = .returned (.bool true) ∧ Below w.heap.size w w' := by
  have kn : (⟨[2, 1, 2, 1, 1, 97], 0⟩ : Rdr).number = (258, ⟨[1, 1, 97], 0⟩) := by simp [Rdr.number, ofBe]
  have kt : (⟨[1, 1, 97], 0⟩ : Rdr).text 5 = ([97], ⟨[], 0⟩) := by simp [Rdr.text, Rdr.small, Rdr.number, Rdr.raw, ofBe]
  have Kn := Lib.hid kn
  have Kt := Lib.hid kt
  have kf : (⟨[], 0⟩ : Rdr).fin = 0 := rfl
  have Kf := Lib.hid kf
  clear kn kt kf
  go_enter Try.func37, Try.ntmps37
  go_wp2_with (go_at_call 38; go_must (refine (Read_any [2, 1, 2, 1, 1, 97] _).mono ?_); rintro e w1 ⟨rfl, hr, hb⟩)
  have hb1 : Below w1.heap.size w1 (w1.alloc (.cells #[.int .u64 258] 51)) := (Below.refl _ _).alloc (Nat.le_refl _) _
  go_wp2_with (go_at_call 35; go_must (refine (PutNumber_any _ _ [] [258] _ (Rd.nil _ _) (Rd.lit w1 1 1 [.int .u64 258] 51 rfl (by simp [maxLen])) (by simp) (by simp [putN_length, blen_258])).mono ?_); rintro e w2 ⟨v2, rfl, ho2, hb2⟩)
  have hr2 := (hr.below hb1).below hb2
  have hbb2 := below_then hb hb.size (below_then hb1 hb1.size hb2)
  clear hb hb1 hb2
  have hb3 : Below w2.heap.size w2 (w2.alloc (.cells #[.string ⟨#[97]⟩] 9)) := (Below.refl _ _).alloc (Nat.le_refl _) _
  go_wp2_with (go_at_call 36; go_must (refine (PutText_any _ _ ([] ++ [258].flatMap putN) [⟨#[97]⟩] _ (Rd.of_own (ho2.alloc _)) (Rd.lit w2 1 1 [.string ⟨#[97]⟩] 9 rfl (by simp [maxLen])) (by rw [one_bytes]; simp only [List.length_cons, List.length_nil]; omega)).mono ?_); rintro e w3 ⟨v3, rfl, ho3, hb4⟩)
  have hr3 := (hr2.below hb3).below hb4
  have hbb3 := below_then hbb2 hbb2.size (below_then hb3 hb3.size hb4)
  clear hb3 hb4 hbb2 hr2 hr ho2
  rw [one_bytes] at ho3
  have ks := (Rd.of_own ho3).string (P := Try.prog) (dst := 9) Try.underlying23 Try.underlying5 Try.underlying9
  simp only [str] at ks
  have Hn := Number_any w.heap.size _ w3 hr3
  rw [Kn.out] at Hn
  have Hn := Lib.hid Hn
  go_wp2_with (first | (go_at_call 39; go_must (refine Hn.out.mono ?_); rintro e w4 ⟨rfl, hl4⟩; have Ht := Text_any w.heap.size _ 5 w4 hl4.1 (by omega); rw [Kt.out] at Ht; have Ht := Lib.hid Ht) | (go_at_call 40; go_must (refine Ht.out.mono ?_); rintro e w5 ⟨rfl, hl5⟩; have He := End_any w.heap.size _ w5 hl5.1; rw [Kf.out] at He; have He := Lib.hid He) | (go_at_call 41; go_must (refine He.out.mono ?_); rintro e w6 ⟨rfl, rfl⟩))
  go_ret
  have hl := (hl4.trans hl5).2
  exact ⟨rfl, hbb3.grown hl hbb3.size (fun k hk => by injection hk with hk; omega)⟩
end Go.Proofs.Ytmiioehiffddeaa.Lay
